/- Walks of package ears: corners; Walks of package ears: turns, Has; Wal and what it needs. -/
import Derived.Test.YtihcepanbejfpaaGreatDoorMEA19
import Derived.Test.YtihcepanbejfpaaGreatDoorMEA20
theorem kI {P:Prop} (h:P:=by kernel_rfl):P:=h
theorem oP {P:Prop} (h:P:=by omega):P:=h
theorem dB {P:Prop} (h:P:=by decide):P:=h
theorem fN {c:Prop} {α:Sort _} {R:α->Prop} (e:¬c) (w:α) (h:c):R w:=absurd h e
theorem fO {α β:Sort _} {γ:α->β->Sort _} {p:(a:α)->(b:β)->γ a b->Prop} (a:α) (b:β) (c:γ a b) (h:p a b c):p a b c:=h
theorem fP {β γ:Sort _} {p q:β->γ->Prop} (b:β) (c:γ) (h:p b c) (_:q b c):p b c:=h
theorem fQ {P:Prop} (h:P:=by simp):P:=h
abbrev zVb:=@Go.wpIn_seq
abbrev zVc:=@Array.getElem?_eq_some_iff
abbrev zVd:=@Go.wpIn_skip
abbrev zVe:=@Go.wpIn_block
abbrev zVf:=@Go.wpIn_ret
abbrev zVg:=@List.mem_cons
abbrev zVh:=@List.mem_singleton
abbrev zVi:=@Nat.le_trans
abbrev zVj:=@of_decide_eq_false
abbrev zVk:=@Go.wpIn_exit
abbrev zVl:=@of_decide_eq_true
abbrev zVm:=@Nat.zero_le
abbrev zVn:=@List.length_map
abbrev zVo:=@List.length_eraseIdx_of_lt
abbrev zVp:=@Nat.mod_lt
abbrev zVq:=@List.not_mem_nil
abbrev zVr:=@or_false
abbrev zVs:=@List.mem_cons_self
abbrev zVt:=@Go.RowKit.Below.refl
abbrev zVu:=@List.getElem?_map
abbrev zVv:=@List.mem_cons_of_mem
abbrev zVw:=@decide_eq_false
abbrev zVx:=@List.getD_eq_getElem?_getD
abbrev zVy:=@Nat.lt_of_lt_of_le
abbrev zVz:=@List.getElem?_eq_getElem
abbrev zVA:=@List.mem_range
abbrev zVB:=@Option.some.inj
abbrev zVC:=@List.getElem?_eq_some_iff
abbrev zVD:=@Nat.not_lt_zero
abbrev zVE:=@List.mem_of_find?_eq_some
abbrev zVF:=@List.all_eq_true
abbrev zVG:=@List.length_append
abbrev zVH:=@List.range_succ
abbrev zVI:=@List.map_toArray
abbrev zVJ:=@List.eraseIdx_eq_take_drop_succ
abbrev zVK:=@Nat.lt_succ_iff_lt_or_eq
abbrev zVL:=@List.mem_of_mem_eraseIdx
abbrev Wp:=Go.World
abbrev Wq:=Go.Value
abbrev Wr:=Go.TypeId
namespace Go.Proofs.Wd
open Tryz
set_option maxRecDepth 100000
set_option maxHeartbeats 1000000
open Go.RowKit Lb
abbrev eT (ps:List V2) (k:Nat):List UF:= [uI (k:Int),fTN (zAP ps k)]
theorem zMz {z b o k c:Nat} {Cs:List CU} {W W':Wp} (h:(SF.row z Cs).p (.slice (some ⟨b,o,none⟩) k c) W) (hb:W'.heap[b]?=W.heap[b]?) (hk:yO W W'):(SF.row z Cs).p (.slice (some ⟨b,o,none⟩) k c) W':=by
 obtain ⟨A,c,e,h2,h3,h4,h5⟩:=h
 refine ⟨A,c,e,h2,h3,h4,fun i C hi=> ?_⟩
 obtain ⟨b',o',cs,g1,g2,g3⟩:=h5 i C hi
 refine ⟨b',o',cs,g1,fun j u hj=> ?_,C.us _ _ _ g3 hk⟩
 have:b'=b:=by
  rw [g1] at e
  injection e with e1
  injection e1 with e2
  injection e2 with e3
  exact e3.symm
 subst this
 exact (World.cell?_of_block hb).trans (g2 j u hj)
theorem zFb {w_:Wp} {b g cap:Nat} {ps:List V2} {C M:Nat->Prop} (hh:w_.heap[b]?=some (.cells #[.slice (some ⟨g,0,none⟩) ps.length cap] 22 (0,0))) (hl:(SF.row 6 (pns ps)).p (.slice (some ⟨g,0,none⟩) ps.length cap) w_) (hMg:M g) (hCb: ¬C b) (hMb: ¬M b) (hn:ps.length<=1000000):
  ItM prog 67 #[pO b 0] (eT ps) ps.length C M w_:=by
 intro l_ J Z W hwW hbW hkW hJs hZs hJM hround hJ0
 obtain ⟨l,hldef⟩: ∃l:Wq,l= .slice (some ⟨g,0,none⟩) ps.length cap:=⟨_,rfl⟩
 have hlc:=zCZ hl
 have hlW:=(SF.row 6 (pns ps)).st _ _ _ hl hbW
 have hhW:W.heap[b]?=some (.cells #[.slice (some ⟨g,0,none⟩) ps.length cap] 22 (0,0)):=(hbW.block b (zVc.1 hh).1).trans hh
 have hstay: ∀{A B:Wp},(SF.row 6 (pns ps)).p (.slice (some ⟨g,0,none⟩) ps.length cap) A->B.heap[g]?=A.heap[g]?->yO A B->(SF.row 6 (pns ps)).p (.slice (some ⟨g,0,none⟩) ps.length cap) B:=fun h1 h2 h3=>zMz h1 h2 h3
 rw [<-hldef] at hh hl hlc hlW hhW
 have hstay': ∀{A B:Wp},(SF.row 6 (pns ps)).p l A->B.heap[g]?=A.heap[g]?->yO A B->(SF.row 6 (pns ps)).p l B:=fun h1 h2 h3=>by rw [hldef] at h1 ⊢;exact hstay h1 h2 h3
 refine zFV func67 rfl ?_
 have s:=zFv (w:=W) (fn:=f67) (args:=#[.func (.yield l_) #[] #[]]++#[pO b 0]) noS [(0,UF.eq (.func (.yield l_) #[] #[]))] [⟨1,22,wB [l],b,true⟩] kI (fun q hq=>by obtain rfl:=zVh.1 hq;exact ⟨by simp,rfl⟩) ⟨⟨[l],rfl, .inl rfl,hhW,rfl,by simp [hlc.2],fun y hy=>by cases hy⟩,trivial⟩ (fun x hx=>by obtain rfl:=zVh.1 hx;show 1<2;decide)
 generalize ({ tmps:=#[.func (.yield l_) #[] #[]]++#[pO b 0]++Array.replicate (f67.ntmps - (#[.func (.yield l_) #[] #[]]++#[pO b 0]:Array Wq).size) undef,defers:= [] }:Act)=a at s ⊢
 have hlz:(pns ps).length=ps.length:=by simp
 refine zVb ?_
 refine zB 3 ((5, .u (UF.eq l))::(6, .u (uI ((pns ps).length:Int)))::(7, .u (uI 0)):: []) hmix s kI
  (oc (yW (C:=(wB [l]).cf) kI (fun _ _ h=>h.2) zAq)<|oc (y7 (z:=6) (Cs:=pns ps) kI (fun v W hb h=>(yL hlW h (s.up hb))) (fun _=>rfl))<|oc zC<|zE) fun a w1 s=> ?_
 refine zA rfl ?_
 refine zVe ?_
 have hJw:J 0 (fun _=>False) w1:=hJs _ _ _ _ _ hJ0 s.below (fun q hq=>hq.elim)
 have hl1:=(SF.row 6 (pns ps)).st _ _ _ hlW s.below
 have hW0:=s.gr.size
 replace s:=(s.keepK [(0, .u (UF.eq (.func (.yield l_) #[] #[]))),(5, .u (UF.eq l)),(6, .u (uI ((pns ps).length:Int))),(7, .u (uI ((0:Nat):Int)))] (fmz ⟨mz3,fmz ⟨.head _,fmz ⟨mz1,fmz ⟨mz2,fnz⟩⟩⟩⟩)).self (yN kI)
 refine zCw (fun k a w=>k<=ps.length/\J k (fun _=>False) w/\(SF.row 6 (pns ps)).p l w/\W.heap.size<=w.heap.size/\StS (inB [⟨1,22,wB [l],b,true⟩]) w [(0, .u (UF.eq (.func (.yield l_) #[] #[]))),(5, .u (UF.eq l)),(6, .u (uI ((pns ps).length:Int))),(7, .u (uI ((k:Nat):Int)))] [⟨1,22,wB [l],b,true⟩] f67.ntmps [] a w) (fun k=>ps.length - k) 0 ⟨zVm _,hJw,hl1,hW0,s⟩ fun k a w ⟨hk',hJ,hlw,hWs,s⟩=> ?_
 replace s:=s.toSt (fun q ⟨x,hx,_,hr⟩=>by obtain rfl:=zVh.1 hx;cases hr) rfl
 refine zVb ?_
 refine zB 1 ((8, .u (uB (decide ((k:Int)<((pns ps).length:Int))))):: []) hmix s kI
  (oc (z5 .i64 (k:Int) ((pns ps).length:Int) (decide ((k:Int)<((pns ps).length:Int))) iiz iiz rfl rfl)<|zE) fun a w2 s=> ?_
 refine zA rfl ?_
 refine zVb ?_
 refine StS.cond s (decide ((k:Int)<((pns ps).length:Int))) iiz (fun e=> ?_) (fun e=> ?_)
 ·have hk:k<ps.length:=by have h7:=zVl e;rw [hlz] at h7;omega
  have hj1:(k+ps.length - 1) % ps.length<ps.length:=zVp _ oP
  have hj2:(k+1) % ps.length<ps.length:=zVp _ oP
  refine zVd ?_
  refine zVb ?_
  refine zVe ?_
  refine zVb ?_
  refine zB 3 ((9, .u (uI (k:Int)))::(10, .Y (fPN (at_ ps k)))::(11, .u (fPN (at_ ps k))):: []) hmix s kI
   (oc zC<|oc (zZ (z:=6) (Cs:=pns ps) (i:=k) (C:=CU.agg (fPN (at_ ps k))) kI (zCF hk) (fun v W hb h=>(yL hlw h (s.up hb))) iiz)<|oc (zR (f:=fPN (at_ ps k)) 6 kI (hz:=yP _ _))<|zE) fun a w3 s=> ?_
  refine yE (CU.len 6) (cs:=zP6) kI rfl s kI (fun W=>rfl) rfl fun b4 a w s=> ?_
  refine qN (uI (k:Int)) rfl s kI iiz fun a w s=> ?_
  refine zU (CU.agg (fPN (at_ ps k))) ((fPN (at_ ps k)).tS) rfl s kI rfl rfl rfl iiz iiz jX fun a w3 s=> ?_
  refine zA rfl ?_
  have hly:=(SF.row 6 (pns ps)).st _ _ _ hlw s.below
  have hJ3:J k (fun _=>False) w3:=hJs _ _ _ _ _ hJ s.below (fun q hq=>hq.elim)
  have hW3:W.heap.size<=w3.heap.size:=zVi hWs s.gr.size
  replace s:StS _ _ _ [⟨4,30,CU.agg (fPN (at_ ps k)),b4,true⟩,⟨1,22,wB [l],b,true⟩] _ _ _ _:=s.freeze
  replace s:=s.reb rfl [(3, .u (uI (k:Int))),(0, .u (UF.eq (.func (.yield l_) #[] #[]))),(5, .u (UF.eq l)),(6, .u (uI ((pns ps).length:Int))),(7, .u (uI (k:Int)))] (fmz ⟨.inl (.head _),fmz ⟨.inl mz4,fmz ⟨.inl mz5,fmz ⟨.inl mz6,fmz ⟨.inl mz7,fnz⟩⟩⟩⟩⟩)
  refine zVb ?_
  refine zB 23 ((12, .u (UF.eq (.func (.yield l_) #[] #[])))::(13, .u (uI (k:Int)))::(14, .s (UF.eq l).tS)::(15, .s (uI (k:Int)).tS)::(16, .s (UF.eq l).tS)::(17, .s (uI ((pns ps).length:Int)).tS)::(18, .s (uI ((k+ps.length:Nat):Int)).tS)::(19, .s (uI ((k+ps.length - 1:Nat):Int)).tS)::(20, .s (UF.eq l).tS)::(21, .s (uI ((pns ps).length:Int)).tS)::(22, .s (uI (((k+ps.length - 1) % ps.length:Nat):Int)).tS)::(23, .Y (fPN (at_ ps ((k+ps.length - 1) % ps.length))))::(24, .s (fPN (at_ ps ((k+ps.length - 1) % ps.length))).tS)::(25, .s (fPN (at_ ps k)).tS)::(26, .s (UF.eq l).tS)::(27, .s (uI (k:Int)).tS)::(28, .s (uI ((k+1:Nat):Int)).tS)::(29, .s (UF.eq l).tS)::(30, .s (uI ((pns ps).length:Int)).tS)::(31, .s (uI (((k+1) % ps.length:Nat):Int)).tS)::(32, .Y (fPN (tn ps k)))::(33, .s (fPN (tn ps k)).tS)::(34, .u (fTN (zAP ps k))):: []) hmix s kI
   (oc zC<|oc zC<|oc (yW (C:=(wB [l]).cf) kI (fun _ _ h=>h.2) zAq)<|oc zC<|oc (yW (C:=(wB [l]).cf) kI (fun _ _ h=>h.2) zAq)<|oc (y7 (z:=6) (Cs:=pns ps) kI (fun v W hb h=>(yL hly h (s.up hb))) (fun _=>rfl))<|oc (yX .i64 (k:Int) ((pns ps).length:Int) ((k+ps.length:Nat):Int) iiz iiz (by rw [hlz];exact wrap64 _ _ oP oP))<|oc (zKN .i64 ((k+ps.length:Nat):Int) 1 ((k+ps.length - 1:Nat):Int) iiz iiz (wrap64 _ _ oP oP))<|oc (yW (C:=(wB [l]).cf) kI (fun _ _ h=>h.2) zAq)<|oc (y7 (z:=6) (Cs:=pns ps) kI (fun v W hb h=>(yL hly h (s.up hb))) (fun _=>rfl))<|oc (zB9 .i64 ((k+ps.length - 1:Nat):Int) ((pns ps).length:Int) (((k+ps.length - 1) % ps.length:Nat):Int) iiz iiz (by rw [hlz];omega) (by rw [hlz];exact zB3 _ _))<|oc (zZ (z:=6) (Cs:=pns ps) (i:=((k+ps.length - 1) % ps.length)) (C:=CU.agg (fPN (at_ ps ((k+ps.length - 1) % ps.length)))) kI (zCF hj1) (fun v W hb h=>(yL hly h (s.up hb))) iiz)<|oc (zR (f:=fPN (at_ ps ((k+ps.length - 1) % ps.length))) 6 kI (hz:=yP _ _))<|oc (zR (f:=fPN (at_ ps k)) 6 kI (hz:=yP _ _))<|oc (yW (C:=(wB [l]).cf) kI (fun _ _ h=>h.2) zAq)<|oc zC<|oc (yX .i64 (k:Int) 1 ((k+1:Nat):Int) iiz iiz (wrap64 _ _ oP oP))<|oc (yW (C:=(wB [l]).cf) kI (fun _ _ h=>h.2) zAq)<|oc (y7 (z:=6) (Cs:=pns ps) kI (fun v W hb h=>(yL hly h (s.up hb))) (fun _=>rfl))<|oc (zB9 .i64 ((k+1:Nat):Int) ((pns ps).length:Int) (((k+1) % ps.length:Nat):Int) iiz iiz (by rw [hlz];omega) (by rw [hlz];exact zB3 _ _))<|oc (zZ (z:=6) (Cs:=pns ps) (i:=((k+1) % ps.length)) (C:=CU.agg (fPN (tn ps k))) kI (zCF hj2) (fun v W hb h=>(yL hly h (s.up hb))) iiz)<|oc (zR (f:=fPN (tn ps k)) 6 kI (hz:=yP _ _))<|oc (zAJ (fun u v q W (hu:(fPN (at_ ps ((k+ps.length - 1) % ps.length))).p u W) (hv:(fPN (at_ ps k)).p v W) (hq:(fPN (tn ps k)).p q W)=>zR2 (t:=zAP ps k) hu hv hq))<|zE) fun a w4 s=> ?_
  have hJ4:J k (fun _=>False) w4:=hJs _ _ _ _ _ hJ3 s.below (fun q hq=>hq.elim)
  have hl4:=(SF.row 6 (pns ps)).st _ _ _ hly s.below
  have hW4:W.heap.size<=w4.heap.size:=zVi hW3 s.gr.size
  replace s:=s.popB
  have hcx: ∀x,x∈([⟨1,22,wB [l],b,true⟩]:List Bx)->x.b<w_.heap.size/\ ¬(C x.b∨M x.b):=fun x hx=>by obtain rfl:=zVh.1 hx;exact ⟨(zVc.1 hh).1,fun hc=>hc.elim hCb hMb⟩
  refine zFr rfl s iiz kI (yN kI) hcx (hround _ _ _ _ hk hJ4 (fun q hq=>hq.elim) ⟨by simp,fun i f hi=> ?_⟩) fun a w5 bv hr hbv s=> ?_
  ·match i,hi with
   |0,hi=>obtain rfl:=zVB hi;rw [zSJ];exact s.at.sl 13
   |1,hi=>obtain rfl:=zVB hi;rw [zSI];exact s.at.sl 34
  have hsz2:=hr.size
  have hbz:bv=false->Z w5:=fun e2=>by rcases hbv with ⟨e3,_⟩|⟨_,hz⟩;rw [e2] at e3;cases e3;exact hz
  have hbj:bv=true->J (k+1) (fun _=>False) w5:=fun e2=>by rcases hbv with ⟨_,hj⟩|⟨e3,_⟩;exact hj;rw [e2] at e3;cases e3
  replace s:=s.toSt (fun q ⟨x,hx,_,hr⟩=>by obtain rfl:=zVh.1 hx;cases hr) rfl
  refine zDp (uB (!bv)) rfl s kI (zEx bv iiz (fun _=>rfl)) kI fun a w s=> ?_
  refine zA rfl ?_
  refine StS.cond s (!bv) iiz (fun e=> ?_) (fun e=> ?_)
  ·have hz:=hbz (by simpa using e)
   refine zVf ?_
   exact ⟨s.nd, .tuple #[],by simp [results,results67],⟨_,rfl⟩, .inr (hZs _ _ hz s.below)⟩
  ·have hJ5:=hbj (by simpa using e)
   have hl5:=hstay' hl4 ((hJM _ _ _ hJ5 g hMg).trans (hJM _ _ _ hJ4 g hMg).symm) hr.keep
   refine zVd ?_
   refine yJ 1 ((37, .u (uI ((k+1:Nat):Int))):: []) s kI
    (oc (yX .i64 (k:Int) 1 ((k+1:Nat):Int) iiz iiz (wrap64 _ _ oP oP))<|zE) fun a w6 s=> ?_
   replace s:=s.drop [7]
   refine zDp (uI ((k+1:Nat):Int)) rfl s kI zC kI fun a w7 s=> ?_
   refine zA rfl ?_
   have hsz4:=s.gr.size
   refine ⟨k+1,by show ps.length - (k+1)<ps.length - k;omega,hk,hJs _ _ _ _ _ hJ5 s.below (fun q hq=>hq.elim),(SF.row 6 (pns ps)).st _ _ _ hl5 s.below,by omega,(s.keepK _ ?_).self (yN kI)⟩
   exact fmz ⟨mz8,fmz ⟨mz9,fmz ⟨zJv,fmz ⟨.head _,fnz⟩⟩⟩⟩
 ·have hkN:k=ps.length:=by have h7:=zVj e;rw [hlz] at h7;omega
  refine zVk ?_
  exact ⟨s.nd, .tuple #[],by simp [results,results67],⟨_,rfl⟩, .inl ⟨_,by rw [<-hkN];exact hJs _ _ _ _ _ hJ s.below (fun q hq=> .inl hq)⟩⟩
end Go.Proofs.Wd

namespace Go.Proofs.Wd
open Tryz
set_option maxRecDepth 100000
set_option maxHeartbeats 1000000
open Go.RowKit Lb
def cor (t:V6) (i:Nat):V2:=at_ (tl t) i
def zLZ (t:V6) (p:V2):Nat->Int
 |0=>1
 |i+1=>min (zBy (cor t i) (cor t ((i+1) % 3)) p) (zLZ t p i)
theorem zRf (t:V6) (p:V2):zLZ t p 3=zCQ t p:=rfl
theorem zQw {m:Nat} {t:V6} {i:Nat} (hi:i<3) (cs:List Wq) (W:Wp) (h:(CU.agg (fTR m t)).p cs W):6*i+6<=cs.length/\(fPV m (cor t i)).p (.agg ((cs.drop (6*i)).take 6).toArray) W:=by
 match i,hi with
 |0,_=>exact zHY cs W h
 |1,_=>exact zJP cs W h
 |2,_=>exact zHe cs W h
theorem zJR {i:Nat} (hi:i<3):zFe prog 38 i=some (6*i):=by
 match i,hi with
 |0,_=>show zFe prog 38 0=some 0;kernel_rfl
 |1,_=>show zFe prog 38 1=some 6;kernel_rfl
 |2,_=>show zFe prog 38 2=some 12;kernel_rfl
theorem zTV (u0 u1 u2 u3 u4 u5 u6 u7 u8 u9 u10 u11 u12 u13 u14 u15 u16 u17:Wq) (W:Wp):(Instr.index 38 (.agg #[u0,u1,u2,u3,u4,u5,u6,u7,u8,u9,u10,u11,u12,u13,u14,u15,u16,u17]) (.int .i64 0)).run prog W= .ok (.agg #[u0,u1,u2,u3,u4,u5]) W:=by kernel_rfl
theorem zTU (u0 u1 u2 u3 u4 u5 u6 u7 u8 u9 u10 u11 u12 u13 u14 u15 u16 u17:Wq) (W:Wp):(Instr.index 38 (.agg #[u0,u1,u2,u3,u4,u5,u6,u7,u8,u9,u10,u11,u12,u13,u14,u15,u16,u17]) (.int .i64 1)).run prog W= .ok (.agg #[u6,u7,u8,u9,u10,u11]) W:=by kernel_rfl
theorem zTT (u0 u1 u2 u3 u4 u5 u6 u7 u8 u9 u10 u11 u12 u13 u14 u15 u16 u17:Wq) (W:Wp):(Instr.index 38 (.agg #[u0,u1,u2,u3,u4,u5,u6,u7,u8,u9,u10,u11,u12,u13,u14,u15,u16,u17]) (.int .i64 2)).run prog W= .ok (.agg #[u12,u13,u14,u15,u16,u17]) W:=by kernel_rfl
theorem zSD {m:Nat} {t:V6} {i:Nat} (hi:i<3) {v:Wq} {W:Wp} (h:(fTR m t).p v W): ∃r,(∀W',(Instr.index 38 v (.int .i64 (i:Int))).run prog W'= .ok r W')/\(fPV m (cor t i)).p r W:=by
 obtain ⟨a,b,c,rfl,h1,h2,h3⟩:=h
 obtain ⟨a0,a1,a2,a3,a4,a5,rfl⟩:=zPH (zBc _ _ a W h1).1
 obtain ⟨b0,b1,b2,b3,b4,b5,rfl⟩:=zPH (zBc _ _ b W h2).1
 obtain ⟨c0,c1,c2,c3,c4,c5,rfl⟩:=zPH (zBc _ _ c W h3).1
 match i,hi with
 |0,_=>exact ⟨_,fun W'=>zTV ..,h1⟩
 |1,_=>exact ⟨_,fun W'=>zTU ..,h2⟩
 |2,_=>exact ⟨_,fun W'=>zTT ..,h3⟩
section
variable {F:Fence} {M:Nat} {w0:Wp} {ops:Array Oper} {G:Nat->SF} {d:Tmp} {ty:Wr} {pos:String} {aft:Array Edge}
theorem zPx {x y:Operand} {m:Nat} {t:V6} {i:Nat} (hi:i<3) (hx: ∀v W,(fct G x).p v W->(fTR m t).p v W) (hy: ∀v W,(fct G y).p v W->v= .int .i64 (i:Int)) (hd: ∀v W,(fPV m (cor t i)).p v W->(G d).p v W:=by exact fun _ _ h=>h):qK F M prog w0 ops G ⟨some d, .index 38 x y,ty,pos,aft,none⟩:=
 qO (fun _ e=>by cases e) (fun _ e=>by cases e) fun b W hb hh=>by
  have e1:=hx _ _ (hh x (by simp [Op.operands]))
  have e2:=hy _ _ (hh y (by simp [Op.operands]))
  obtain ⟨r,h1,h2⟩:=zSD hi e1
  exact ⟨r,by simp [execOp,e2,h1 W],hd _ _ h2⟩
end
theorem zF5 {m:Nat} {W:Wp} {x:Wq} {t:V6} (hx:(fTR m t).p x W) (hm:m<=159) (hm0:0<m) (hT:Tab W):Calls prog 36 #[x] W (Ret W (fI (zBo t)).tS):=by
 refine yF [(fTR m t).tS] func36 rfl kI ⟨hx,trivial⟩ fun a s=> ?_
 replace s:=s.renew [(0, .u (fTR m t))] (fmz ⟨.inr ⟨_,rfl, .head _⟩,fnz⟩)
 refine zVb ?_
 refine zB 0 [] hmix s kI
  zE fun a w1 s=> ?_
 refine qD (CU.agg (fTR m t)) rfl s kI (fun v W h=>zNN h) fun b1 a w s=> ?_
 refine qN (uI 0) rfl s kI iiz fun a w s=> ?_
 refine zA rfl ?_
 refine zVb ?_
 replace s:=s.drop [2]
 refine zB 8 ((3, .X (fTR m t) 0)::(4, .Z (fPV m ((t).1)))::(5, .X (fTR m t) 6)::(6, .Z (fPV m ((t).2.1)))::(7, .X (fTR m t) 12)::(8, .Z (fPV m ((t).2.2)))::(9, .Z (uI (zBo t)))::(2, .u (uI (zBo t))):: []) hmix s kI
  (oc (qE (C:=cg (fTR m t)) 0 0 kI (fun _ _ h=>h.2) iiz)<|oc (zS (C:=cg (fTR m t)) (k:=0) 6 kI (h:=zHY))<|oc (qE (C:=cg (fTR m t)) 1 6 kI (fun _ _ h=>h.2) iiz)<|oc (zS (C:=cg (fTR m t)) (k:=6) 6 kI (h:=zJP))<|oc (qE (C:=cg (fTR m t)) 2 12 kI (fun _ _ h=>h.2) iiz)<|oc (zS (C:=cg (fTR m t)) (k:=12) 6 kI (h:=zHe))<|oc (zD0 zD zRE (fun u0 u1 u2 W hb (h0:(fPV m ((t).1)).p u0 W) (h1:(fPV m ((t).2.1)).p u1 W) (h2:(fPV m ((t).2.2)).p u2 W)=>zJY h0 h1 h2 hm hm0 (hT.below (s.up hb))))<|oc zG<|zE) fun a w2 s=> ?_
 refine zA rfl ?_
 refine zVf ?_
 exact wF s (t:=2) rfl iiz
theorem zGY {m:Nat} {W:Wp} {x y:Wq} {t:V6} {p:V2} (h1:(fTR m t).p x W) (h2:(fPV m p).p y W) (hm:m<=159) (hm0:0<m) (hT:Tab W):Calls prog 28 #[x,y] W (Ret W (fI (zCQ t p)).tS):=by
 refine yF [(fTR m t).tS,(fPV m p).tS] func28 rfl kI ⟨h1,h2,trivial⟩ fun a s=> ?_
 replace s:=s.renew [(0, .u (fTR m t)),(1, .u (fPV m p))] (fmz ⟨.inr ⟨_,rfl, .head _⟩,fmz ⟨.inr ⟨_,rfl,mz1⟩,fnz⟩⟩)
 refine zVb ?_
 refine zB 0 [] hmix s kI
  zE fun a w1 s=> ?_
 refine qD (CU.agg (fTR m t)) rfl s kI (fun v W h=>zNN h) fun b2 a w s=> ?_
 refine qD (CU.agg (fPV m p)) rfl s kI (fun v W h=>zAI h) fun b3 a w s=> ?_
 refine qN (uI 0) rfl s kI iiz fun a w s=> ?_
 refine zA rfl ?_
 refine zVb ?_
 refine zB 1 ((5, .u (uI 1)):: []) hmix s kI
  (oc zG<|zE) fun a w2 s=> ?_
 refine zA rfl ?_
 refine zVb ?_
 refine zVb ?_
 refine zB 2 ((8, .u (fTR m t))::(9, .u (uI 0)):: []) hmix s kI
  (oc (zR (f:=fTR m t) 18 kI (hz:=zHZ _ _))<|oc zC<|zE) fun a w3 s=> ?_
 refine zA rfl ?_
 refine zVe ?_
 refine zBh (fun i=>i<=3) (fun i=> [(8, .u (fTR m t)),(5, .u (uI (zLZ t p i))),(9, .u (uI ((i:Nat):Int)))]) (fun i=>3 - i) (0:Nat) (zVm _) (s.keepK _ (fmz ⟨.head _,fmz ⟨mz2,fmz ⟨mz1,fnz⟩⟩⟩)) fun i a w hx s=> ?_
 refine zVb ?_
 refine zB 1 ((10, .u (uB (decide ((i:Int)<3)))):: []) hmix s kI
  (oc (z5 .i64 (i:Int) 3 (decide ((i:Int)<3)) iiz iiz rfl rfl)<|zE) fun a w4 s=> ?_
 refine zA rfl ?_
 refine zVb ?_
 refine StS.cond s (decide ((i:Int)<3)) iiz (fun e=> ?_) (fun e=> ?_)
 ·have hi:i<3:=by have:=zVl e;omega
  have hj:(i+1) % 3<3:=zVp _ dB
  refine zVd ?_
  refine zVb ?_
  refine zVe ?_
  refine zVb ?_
  refine zB 2 ((11, .u (uI (i:Int)))::(12, .u (fPV m (cor t i))):: []) hmix s kI
   (oc zC<|oc (zPx hi iiz iiz)<|zE) fun a w5 s=> ?_
  refine yE (CU.len 6) (cs:=zP6) kI rfl s kI (fun W=>rfl) rfl fun b7 a w s=> ?_
  refine qN (uI (i:Int)) rfl s kI iiz fun a w s=> ?_
  refine zU (CU.agg (fPV m (cor t i))) ((fPV m (cor t i)).tS) rfl s kI rfl rfl rfl iiz iiz jX fun a w s=> ?_
  refine zA rfl ?_
  refine zHs (K:= [(6, .u (uI (i:Int))),(11, .u (uI (i:Int))),(12, .u (fPV m (cor t i))),(10, .u (uB (decide ((i:Int)<3)))),(8, .u (fTR m t)),(9, .u (uI (i:Int)))]) [(5, .u (uI (zLZ t p i)))] [1,8] 10 ((13, .Z (fPV m (cor t i)))::(14, .Z (uI (i:Int)))::(15, .Z (uI ((i+1:Nat):Int)))::(16, .Z (uI (((i+1) % 3:Nat):Int)))::(17, .s (wC ((CU.agg (fTR m t)).cf.at (6*((i+1) % 3)))))::(18, .Z (fPV m (cor t ((i+1) % 3))))::(19, .Z (fPV m p))::(20, .Z (uI (zBy (cor t i) (cor t ((i+1) % 3)) p)))::(21, .Z (uI (zLZ t p i)))::(22, .u (uI (zLZ t p (i+1)))):: []) hmix (s.keepK _ (fmz ⟨mz5,fmz ⟨.head _,fmz ⟨mz1,fmz ⟨mz2,fmz ⟨mz3,fmz ⟨mz4,fmz ⟨mz6,fnz⟩⟩⟩⟩⟩⟩⟩)) kI
   (oc (zR (f:=fPV m (cor t i)) 6 kI (hz:=yP _ _))<|oc zC<|oc (yX .i64 (i:Int) 1 ((i+1:Nat):Int) iiz iiz (wrap64 _ _ oP oP))<|oc (zB9 .i64 ((i+1:Nat):Int) 3 (((i+1) % 3:Nat):Int) iiz iiz dB (zB3 _ 3))<|oc (qE (C:=cg (fTR m t)) ((i+1) % 3) (6*((i+1) % 3)) (zJR hj) (fun _ _ h=>h.2) iiz)<|oc (zS (C:=cg (fTR m t)) (k:=6*((i+1) % 3)) 6 kI (h:=zQw hj))<|oc (zR (f:=fPV m p) 6 kI (hz:=yP _ _))<|oc (zD0 zD zRE (fun u0 u1 u2 W hb (h0:(fPV m (cor t i)).p u0 W) (h1:(fPV m (cor t ((i+1) % 3))).p u1 W) (h2:(fPV m p).p u2 W)=>zJY h0 h1 h2 hm hm0 (hT.below (s.up hb))))<|oc zC<|oc (zPv (zBy (cor t i) (cor t ((i+1) % 3)) p) (zLZ t p i) iiz iiz)<|zE) fun Q' hQ a w6 s=> ?_
  refine qN (uI (zLZ t p (i+1))) rfl s kI iiz fun a w s=> ?_
  refine zA rfl (hQ _ _ ?_)
  refine yJ 1 ((23, .u (uI ((i+1:Nat):Int))):: []) s kI
   (oc (yX .i64 (i:Int) 1 ((i+1:Nat):Int) iiz iiz (wrap64 _ _ oP oP))<|zE) fun a w7 s=> ?_
  replace s:=s.drop [9]
  refine zDp (uI ((i+1:Nat):Int)) rfl s kI zC kI fun a w s=> ?_
  refine zA rfl ?_
  replace s:=s.popB
  exact ⟨i+1,hi,(by show 3 - (i+1)<3 - i;omega),s.keepK _ (fmz ⟨mz8,fmz ⟨mz2,fmz ⟨.head _,fnz⟩⟩⟩)⟩
 ·have hi:i=3:=by have h7:=zVj e;have h8:=hx;omega
  refine zVk ?_
  refine zVb ?_
  refine zB 2 ((24, .Z (uI (zLZ t p i)))::(4, .u (uI (zLZ t p i))):: []) hmix s kI
   (oc zC<|oc zG<|zE) fun a w8 s=> ?_
  refine zA rfl ?_
  refine zVf ?_
  exact wF s (t:=4) rfl (fun v W h=>by rw [<-zRf, <-hi];exact h)
end Go.Proofs.Wd

namespace Go.Proofs.Wd
open Tryz
set_option maxRecDepth 100000
set_option maxHeartbeats 1000000
open Go.RowKit Lb
abbrev trn (t:V6):Rat:=crs t.1 t.2.1 t.2.2
def arK (ts:List V6):Nat->Rat
 |0=>((0:Int):Rat)
 |k+1=>arK ts k+trn (at3 ts k)
theorem zEV {t:V6} (h: ∀p,p∈tl t->QB p.1 1/\QB p.2 1):QB (trn t) 13:=
 ((((h t.2.1 fQ).1.sub (h t.1 fQ).1).mul ((h t.2.2 fQ).2.sub (h t.1 fQ).2)).sub (((h t.2.1 fQ).2.sub (h t.1 fQ).2).mul ((h t.2.2 fQ).1.sub (h t.1 fQ).1))).mono dB
theorem zG2 {ts:List V6} (h: ∀i,i<ts.length-> ∀p,p∈tl (at3 ts i)->QB p.1 1/\QB p.2 1): ∀k,k<=ts.length->QB (arK ts k) (14*k+1)
 |0,_=>QB.zero oP
 |k+1,hk=>((zG2 h k oP).add (zEV (h k oP))).mono oP
theorem zLL (ts:List V6) (l:List V6): ∀k,k<=ts.length->arK (ts++l) k=arK ts k
 |0,_=>rfl
 |k+1,hk=>by
  show arK (ts++l) k+_=arK ts k+_
  rw [zLL ts l k oP]
  congr 2
  unfold at3
  rw [zVx,zVx,List.getElem?_append_left oP]
theorem zNA (ts:List V6) (t:V6):arK (ts++ [t]) (ts++ [t]).length=arK ts ts.length+trn t:=by
 rw [zVG]
 show arK (ts++ [t]) ts.length+trn (at3 (ts++ [t]) ts.length)=_
 rw [zLL ts [t] _ lr]
 congr 2
 unfold at3
 rw [zVx]
 simp
theorem zQc (t:V6):arK [t] 1=trn t:=by
 show ((0:Int):Rat)+trn t=trn t
 have:((0:Int):Rat)=0:=rfl
 rw [this]
 grind
def prK (ps:List V2):Nat->Rat
 |0=>((0:Int):Rat)
 |k+1=>prK ps k+crd (at_ ps k,at_ ps ((k+1) % ps.length))
theorem zKD {ps:List V2} (h: ∀p,p∈ps->QB p.1 1/\QB p.2 1): ∀k,k<=ps.length->QB (prK ps k) (6*k+1)
 |0,_=>QB.zero oP
 |k+1,hk=>by
  have h1:=h _ (zCj (show k<ps.length by omega))
  have h2:=h _ (zCj (show (k+1) % ps.length<ps.length from zVp _ oP))
  exact ((zKD h k oP).add (((h1.1.mul h2.2).sub (h1.2.mul h2.1)).mono (m':=5) dB)).mono oP
theorem zQ5 (ps:List V2):prK ps ps.length=arE ps:=by
 unfold arE
 rw [zLA,List.map_map]
 have: ∀k,prK ps k=((List.range k).map (crd ∘ fun i=>(at_ ps i,at_ ps ((i+1) % ps.length)))).sum:=by
  intro k
  induction k with
  |zero=>rfl
  |succ k ih=>
   show prK ps k+_=_
   rw [ih,zVH,List.map_append,List.sum_append]
   simp
   rw [Rat.add_zero]
 exact this _
theorem zDE {W:Wp} {l:Wq} {ts:List V6} (hl:(SF.row 18 (trs 1 ts)).p l W) (hn:ts.length<=12) (hT:Tab W):Calls prog 24 #[l] W (Ret W (fQN (arK ts ts.length)).tS):=by
 refine yF [(UF.eq l).tS] func24 rfl kI ⟨rfl,trivial⟩ fun a s=> ?_
 replace s:=s.renew [(0, .u (UF.eq l))] (fmz ⟨.inr ⟨_,rfl, .head _⟩,fnz⟩)
 refine zVb ?_
 refine zB 0 [] hmix s kI
  zE fun a w1 s=> ?_
 refine yE (CU.len 3) (cs:=zR3) kI rfl s kI (fun W=>rfl) rfl fun b2 a w s=> ?_
 refine zA rfl ?_
 refine zVb ?_
 refine zB 1 ((6, .u (fQN (arK ts 0))):: []) hmix s kI
  (oc (zH zD zPZ (fun u0 W hb (h0:u0= .int .i64 0)=>zQN 0 h0 dB))<|zE) fun a w2 s=> ?_
 refine yE (CU.len 3) (cs:=zR3) kI rfl s kI (fun W=>rfl) rfl fun b3 a w s=> ?_
 refine zU (CU.agg (fQN (arK ts 0))) ((fQN (arK ts 0)).tS) rfl s kI rfl rfl rfl iiz iiz yB fun a w s=> ?_
 refine zA rfl ?_
 refine zVb ?_
 refine zVb ?_
 refine zB 3 ((7, .u (UF.eq l))::(8, .u (uI ((trs 1 ts).length:Int)))::(9, .u (uI 0)):: []) hmix s kI
  (oc zC<|oc (y7 (z:=18) (Cs:=trs 1 ts) kI (fun v W hb h=>(yL hl h (s.up hb))) (fun _=>rfl))<|oc zC<|zE) fun a w3 s=> ?_
 refine zA rfl ?_
 refine zVe ?_
 refine zCV 3 (fun k=>CU.agg (fQN (arK ts k))) (fun k=>k<=ts.length) (fun k=> [(7, .u (UF.eq l)),(8, .u (uI ((trs 1 ts).length:Int))),(9, .u (uI ((k:Nat):Int)))]) (fun k=>ts.length - k) (0:Nat) (zVm _) (s.keepK _ (fmz ⟨.head _,fmz ⟨mz1,fmz ⟨mz2,fnz⟩⟩⟩)) rfl fun k a w hx s=> ?_
 have hlz:(trs 1 ts).length=ts.length:=by simp
 refine zVb ?_
 refine zB 1 ((10, .u (uB (decide ((k:Int)<((trs 1 ts).length:Int))))):: []) hmix s kI
  (oc (z5 .i64 (k:Int) ((trs 1 ts).length:Int) (decide ((k:Int)<((trs 1 ts).length:Int))) iiz iiz rfl rfl)<|zE) fun a w4 s=> ?_
 refine zA rfl ?_
 refine zVb ?_
 refine StS.cond s (decide ((k:Int)<((trs 1 ts).length:Int))) iiz (fun e=> ?_) (fun e=> ?_)
 ·have hk:k<ts.length:=by have:=zVl e;rw [hlz] at this;omega
  have hq:=zHV dB hl hk
  have hlq:QB (arK ts k) 200:=(zG2 (fun i hi=>zHV dB hl hi) k oP).mono oP
  have hfq:QB (trn (at3 ts k)) 200:=(zEV hq).mono dB
  have hd1:QB (((at3 ts k).2.1).1 - ((at3 ts k).1).1,((at3 ts k).2.1).2 - ((at3 ts k).1).2).1 3/\QB (((at3 ts k).2.1).1 - ((at3 ts k).1).1,((at3 ts k).2.1).2 - ((at3 ts k).1).2).2 3:=⟨((hq _ (zVv _ (zVs ..))).1.sub (hq _ (zVs ..)).1).mono dB,((hq _ (zVv _ (zVs ..))).2.sub (hq _ (zVs ..)).2).mono dB⟩
  have hd2:QB (((at3 ts k).2.2).1 - ((at3 ts k).1).1,((at3 ts k).2.2).2 - ((at3 ts k).1).2).1 3/\QB (((at3 ts k).2.2).1 - ((at3 ts k).1).1,((at3 ts k).2.2).2 - ((at3 ts k).1).2).2 3:=⟨((hq _ (zVv _ (zVv _ (zVs ..)))).1.sub (hq _ (zVs ..)).1).mono dB,((hq _ (zVv _ (zVv _ (zVs ..)))).2.sub (hq _ (zVs ..)).2).mono dB⟩
  refine zVd ?_
  refine zVb ?_
  refine zVe ?_
  refine zVb ?_
  refine zB 2 ((11, .Y (fTR 1 (at3 ts k)))::(12, .u (fTR 1 (at3 ts k))):: []) hmix s kI
   (oc (zZ (z:=18) (Cs:=trs 1 ts) (i:=k) (C:=CU.agg (fTR 1 (at3 ts k))) kI (zHd hk) (fun v W hb h=>(yL hl h (s.up hb))) iiz)<|oc (zR (f:=fTR 1 (at3 ts k)) 18 kI (hz:=zHZ _ _))<|zE) fun a w5 s=> ?_
  refine yE (CU.len 18) (cs:= [.bool false, .slice none 0 0, .slice none 0 0, .bool false, .slice none 0 0, .slice none 0 0, .bool false, .slice none 0 0, .slice none 0 0, .bool false, .slice none 0 0, .slice none 0 0, .bool false, .slice none 0 0, .slice none 0 0, .bool false, .slice none 0 0, .slice none 0 0]) kI rfl s kI (fun W=>rfl) rfl fun b5 a w s=> ?_
  refine zU (CU.agg (fTR 1 (at3 ts k))) ((fTR 1 (at3 ts k)).tS) rfl s kI rfl rfl rfl iiz iiz zHX fun a w s=> ?_
  refine zA rfl ?_
  refine yK [] 14 ((13, .Z (fQN (arK ts k)))::(14, .X (fTR 1 (at3 ts k)) 6)::(15, .Z (fPV 1 ((at3 ts k).2.1)))::(16, .X (fTR 1 (at3 ts k)) 0)::(17, .Z (fPV 1 ((at3 ts k).1)))::(18, .Z (fPN (((at3 ts k).2.1).1 - ((at3 ts k).1).1,((at3 ts k).2.1).2 - ((at3 ts k).1).2)))::(19, .X (fTR 1 (at3 ts k)) 12)::(20, .Z (fPV 1 ((at3 ts k).2.2)))::(21, .X (fTR 1 (at3 ts k)) 0)::(22, .Z (fPV 1 ((at3 ts k).1)))::(23, .Z (fPN (((at3 ts k).2.2).1 - ((at3 ts k).1).1,((at3 ts k).2.2).2 - ((at3 ts k).1).2)))::(24, .Z (fQN (trn (at3 ts k))))::(25, .s (fQS 200 [(arK ts k),(trn (at3 ts k))]))::(26, .u (fQN (arK ts (k+1)))):: []) hmix s kI
   (oc (zR (f:=fQN (arK ts k)) 3 kI (hz:=y9 _))<|oc (qE (C:=cg (fTR 1 (at3 ts k))) 1 6 kI (fun _ _ h=>h.2) iiz)<|oc (zS (C:=cg (fTR 1 (at3 ts k))) (k:=6) 6 kI (h:=zJP))<|oc (qE (C:=cg (fTR 1 (at3 ts k))) 0 0 kI (fun _ _ h=>h.2) iiz)<|oc (zS (C:=cg (fTR 1 (at3 ts k))) (k:=0) 6 kI (h:=zHY))<|oc (zM zD zNr (fun u0 u1 W hb (h0:(fPV 1 ((at3 ts k).2.1)).p u0 W) (h1:(fPV 1 ((at3 ts k).1)).p u1 W)=>zHR (m:=1) (p:=(at3 ts k).2.1) (q:=(at3 ts k).1) h0 h1 dB dB (hT.below (s.up hb))))<|oc (qE (C:=cg (fTR 1 (at3 ts k))) 2 12 kI (fun _ _ h=>h.2) iiz)<|oc (zS (C:=cg (fTR 1 (at3 ts k))) (k:=12) 6 kI (h:=zHe))<|oc (qE (C:=cg (fTR 1 (at3 ts k))) 0 0 kI (fun _ _ h=>h.2) iiz)<|oc (zS (C:=cg (fTR 1 (at3 ts k))) (k:=0) 6 kI (h:=zHY))<|oc (zM zD zNr (fun u0 u1 W hb (h0:(fPV 1 ((at3 ts k).2.2)).p u0 W) (h1:(fPV 1 ((at3 ts k).1)).p u1 W)=>zHR (m:=1) (p:=(at3 ts k).2.2) (q:=(at3 ts k).1) h0 h1 dB dB (hT.below (s.up hb))))<|oc (zM zD zPX (fun u0 u1 W hb (h0:(fPN (((at3 ts k).2.1).1 - ((at3 ts k).1).1,((at3 ts k).2.1).2 - ((at3 ts k).1).2)).p u0 W) (h1:(fPN (((at3 ts k).2.2).1 - ((at3 ts k).1).1,((at3 ts k).2.2).2 - ((at3 ts k).1).2)).p u1 W)=>zFl (m:=3) (p:=(((at3 ts k).2.1).1 - ((at3 ts k).1).1,((at3 ts k).2.1).2 - ((at3 ts k).1).2)) (q:=(((at3 ts k).2.2).1 - ((at3 ts k).1).1,((at3 ts k).2.2).2 - ((at3 ts k).1).2)) (zCG (p:=(((at3 ts k).2.1).1 - ((at3 ts k).1).1,((at3 ts k).2.1).2 - ((at3 ts k).1).2)) (m:=3) hd1.1 hd1.2 h0) (zCG (p:=(((at3 ts k).2.2).1 - ((at3 ts k).1).1,((at3 ts k).2.2).2 - ((at3 ts k).1).2)) (m:=3) hd2.1 hd2.2 h1) hd1 hd2 dB dB (hT.below (s.up hb))))<|oc (yC (fun u v W (hu:QNp (arK ts k) u W) (hv:QNp (trn (at3 ts k)) v W)=>zEh (m:=200) (wH hu hlq) (wH hv hfq)))<|oc (zH zD zPY (fun u0 W hb (h0:(fQS 200 [(arK ts k),(trn (at3 ts k))]).p u0 W)=>zHt (m:=200) (p:=arK ts k) (q:=trn (at3 ts k)) h0 hlq hfq dB (hT.below (s.up hb))))<|zE) fun Q' hQ a w6 s=> ?_
  refine zU (CU.agg (fQN (arK ts (k+1)))) ((fQN (arK ts (k+1))).tS) rfl s kI rfl rfl rfl (y9 _) iiz yB fun a w s=> ?_
  refine zA rfl (hQ _ _ ?_)
  refine yJ 1 ((27, .u (uI ((k+1:Nat):Int))):: []) s kI
   (oc (yX .i64 (k:Int) 1 ((k+1:Nat):Int) iiz iiz (wrap64 _ _ oP oP))<|zE) fun a w7 s=> ?_
  replace s:=s.drop [9]
  refine zDp (uI ((k+1:Nat):Int)) rfl s kI zC kI fun a w s=> ?_
  refine zA rfl ?_
  replace s:=s.popB
  exact ⟨k+1,hk,(by show ts.length - (k+1)<ts.length - k;omega),s.keepK _ (fmz ⟨mz5,fmz ⟨mz6,fmz ⟨.head _,fnz⟩⟩⟩)⟩
 ·have hkN:k=ts.length:=by have h7:=zVj e;rw [hlz] at h7;omega
  subst hkN
  refine zVk ?_
  refine zVb ?_
  refine zB 1 ((28, .u (fQN (arK ts ts.length))):: []) hmix s kI
   (oc (zR (f:=fQN (arK ts ts.length)) 3 kI (hz:=y9 _))<|zE) fun a w8 s=> ?_
  refine zU (CU.agg (fQN (arK ts ts.length))) ((fQN (arK ts ts.length)).tS) rfl s kI rfl rfl rfl iiz iiz yB fun a w s=> ?_
  refine zA rfl ?_
  refine zVf ?_
  exact wJ s (CU.agg (fQN (arK ts ts.length))) rfl kI rfl rfl (y9 _) (fun cs W h=>h)
theorem zPE {W:Wp} {l:Wq} {ps:List V2} (hl:(SF.row 6 (pvs 1 ps)).p l W) (hn:ps.length<=12) (hT:Tab W):Calls prog 91 #[l] W (Ret W (fQN (prK ps ps.length)).tS):=by
 have hqb:=zKC dB hl
 refine yF [(UF.eq l).tS] func91 rfl kI ⟨rfl,trivial⟩ fun a s=> ?_
 replace s:=s.renew [(0, .u (UF.eq l))] (fmz ⟨.inr ⟨_,rfl, .head _⟩,fnz⟩)
 refine zVb ?_
 refine zB 0 [] hmix s kI
  zE fun a w1 s=> ?_
 refine yE (CU.len 3) (cs:=zR3) kI rfl s kI (fun W=>rfl) rfl fun b2 a w s=> ?_
 refine zA rfl ?_
 refine zVb ?_
 refine zB 1 ((6, .u (fQN (prK ps 0))):: []) hmix s kI
  (oc (zH zD zPZ (fun u0 W hb (h0:u0= .int .i64 0)=>zQN 0 h0 dB))<|zE) fun a w2 s=> ?_
 refine yE (CU.len 3) (cs:=zR3) kI rfl s kI (fun W=>rfl) rfl fun b3 a w s=> ?_
 refine zU (CU.agg (fQN (prK ps 0))) ((fQN (prK ps 0)).tS) rfl s kI rfl rfl rfl iiz iiz yB fun a w s=> ?_
 refine zA rfl ?_
 refine zVb ?_
 refine zVb ?_
 refine zB 3 ((7, .u (UF.eq l))::(8, .u (uI ((pvs 1 ps).length:Int)))::(9, .u (uI 0)):: []) hmix s kI
  (oc zC<|oc (y7 (z:=6) (Cs:=pvs 1 ps) kI (fun v W hb h=>(yL hl h (s.up hb))) (fun _=>rfl))<|oc zC<|zE) fun a w3 s=> ?_
 refine zA rfl ?_
 refine zVe ?_
 refine zCV 3 (fun k=>CU.agg (fQN (prK ps k))) (fun k=>k<=ps.length) (fun k=> [(0, .u (UF.eq l)),(7, .u (UF.eq l)),(8, .u (uI ((pvs 1 ps).length:Int))),(9, .u (uI ((k:Nat):Int)))]) (fun k=>ps.length - k) (0:Nat) (zVm _) (s.keepK _ (fmz ⟨mz4,fmz ⟨.head _,fmz ⟨mz1,fmz ⟨mz2,fnz⟩⟩⟩⟩)) rfl fun k a w hx s=> ?_
 have hlz:(pvs 1 ps).length=ps.length:=by simp
 refine zVb ?_
 refine zB 1 ((10, .u (uB (decide ((k:Int)<((pvs 1 ps).length:Int))))):: []) hmix s kI
  (oc (z5 .i64 (k:Int) ((pvs 1 ps).length:Int) (decide ((k:Int)<((pvs 1 ps).length:Int))) iiz iiz rfl rfl)<|zE) fun a w4 s=> ?_
 refine zA rfl ?_
 refine zVb ?_
 refine StS.cond s (decide ((k:Int)<((pvs 1 ps).length:Int))) iiz (fun e=> ?_) (fun e=> ?_)
 ·have hk:k<ps.length:=by have:=zVl e;rw [hlz] at this;omega
  have hj:(k+1) % ps.length<ps.length:=zVp _ oP
  have hlq:QB (prK ps k) 200:=(zKD hqb k oP).mono oP
  have hfq:QB (crd ((at_ ps k),(tn ps k))) 200:=((((hqb _ (zCj hk)).1.mul (hqb _ (zCj hj)).2).sub ((hqb _ (zCj hk)).2.mul (hqb _ (zCj hj)).1)).mono (m':=5) dB).mono dB
  refine zVd ?_
  refine zVb ?_
  refine zVe ?_
  refine zVb ?_
  refine zB 3 ((11, .u (uI (k:Int)))::(12, .Y (fPV 1 (at_ ps k)))::(13, .u (fPV 1 (at_ ps k))):: []) hmix s kI
   (oc zC<|oc (zZ (z:=6) (Cs:=pvs 1 ps) (i:=k) (C:=CU.agg (fPV 1 (at_ ps k))) kI (zAV hk) (fun v W hb h=>(yL hl h (s.up hb))) iiz)<|oc (zR (f:=fPV 1 (at_ ps k)) 6 kI (hz:=yP _ _))<|zE) fun a w5 s=> ?_
  refine yE (CU.len 6) (cs:=zP6) kI rfl s kI (fun W=>rfl) rfl fun b5 a w s=> ?_
  refine qN (uI (k:Int)) rfl s kI iiz fun a w s=> ?_
  refine zU (CU.agg (fPV 1 (at_ ps k))) ((fPV 1 (at_ ps k)).tS) rfl s kI rfl rfl rfl iiz iiz jX fun a w s=> ?_
  refine zA rfl ?_
  refine yK [2,3,5] 13 ((14, .Z (fQN (prK ps k)))::(15, .Z (fPV 1 (at_ ps k)))::(16, .Z (UF.eq l))::(17, .Z (uI (k:Int)))::(18, .Z (uI ((k+1:Nat):Int)))::(19, .Z (UF.eq l))::(20, .Z (uI ((pvs 1 ps).length:Int)))::(21, .Z (uI (((k+1) % ps.length:Nat):Int)))::(22, .Y (fPV 1 (tn ps k)))::(23, .Z (fPV 1 (tn ps k)))::(24, .Z (fQN (crd ((at_ ps k),(tn ps k)))))::(25, .s (fQS 200 [(prK ps k),(crd ((at_ ps k),(tn ps k)))]))::(26, .u (fQN (prK ps (k+1)))):: []) hmix s kI
   (oc (zR (f:=fQN (prK ps k)) 3 kI (hz:=y9 _))<|oc (zR (f:=fPV 1 (at_ ps k)) 6 kI (hz:=yP _ _))<|oc zC<|oc zC<|oc (yX .i64 (k:Int) 1 ((k+1:Nat):Int) iiz iiz (wrap64 _ _ oP oP))<|oc zC<|oc (y7 (z:=6) (Cs:=pvs 1 ps) kI (fun v W hb h=>(yL hl h (s.up hb))) (fun _=>rfl))<|oc (zB9 .i64 ((k+1:Nat):Int) ((pvs 1 ps).length:Int) (((k+1) % ps.length:Nat):Int) iiz iiz (by rw [hlz];omega) (by rw [hlz];exact zB3 _ _))<|oc (zZ (z:=6) (Cs:=pvs 1 ps) (i:=((k+1) % ps.length)) (C:=CU.agg (fPV 1 (tn ps k))) kI (zAV hj) (fun v W hb h=>(yL hl h (s.up hb))) iiz)<|oc (zR (f:=fPV 1 (tn ps k)) 6 kI (hz:=yP _ _))<|oc (zM zD zPX (fun u0 u1 W hb (h0:(fPV 1 (at_ ps k)).p u0 W) (h1:(fPV 1 (tn ps k)).p u1 W)=>zFl (m:=1) (p:=(at_ ps k)) (q:=(tn ps k)) h0 h1 (hqb _ (zCj hk)) (hqb _ (zCj hj)) dB dB (hT.below (s.up hb))))<|oc (yC (fun u v W (hu:QNp (prK ps k) u W) (hv:QNp (crd ((at_ ps k),(tn ps k))) v W)=>zEh (m:=200) (wH hu hlq) (wH hv hfq)))<|oc (zH zD zPY (fun u0 W hb (h0:(fQS 200 [(prK ps k),(crd ((at_ ps k),(tn ps k)))]).p u0 W)=>zHt (m:=200) (p:=prK ps k) (q:=(crd ((at_ ps k),(tn ps k)))) h0 hlq hfq dB (hT.below (s.up hb))))<|zE) fun Q' hQ a w6 s=> ?_
  refine zU (CU.agg (fQN (prK ps (k+1)))) ((fQN (prK ps (k+1))).tS) rfl s kI rfl rfl rfl (y9 _) iiz yB fun a w s=> ?_
  refine zA rfl (hQ _ _ ?_)
  refine yJ 1 ((27, .u (uI ((k+1:Nat):Int))):: []) s kI
   (oc (yX .i64 (k:Int) 1 ((k+1:Nat):Int) iiz iiz (wrap64 _ _ oP oP))<|zE) fun a w7 s=> ?_
  replace s:=s.drop [9]
  refine zDp (uI ((k+1:Nat):Int)) rfl s kI zC kI fun a w s=> ?_
  refine zA rfl ?_
  replace s:=s.popB
  exact ⟨k+1,hk,(by show ps.length - (k+1)<ps.length - k;omega),s.keepK _ (fmz ⟨mz7,fmz ⟨mz8,fmz ⟨mz9,fmz ⟨.head _,fnz⟩⟩⟩⟩)⟩
 ·have hkN:k=ps.length:=by have h7:=zVj e;rw [hlz] at h7;omega
  subst hkN
  refine zVk ?_
  refine zVb ?_
  refine zB 1 ((28, .u (fQN (prK ps ps.length))):: []) hmix s kI
   (oc (zR (f:=fQN (prK ps ps.length)) 3 kI (hz:=y9 _))<|zE) fun a w8 s=> ?_
  refine zU (CU.agg (fQN (prK ps ps.length))) ((fQN (prK ps ps.length)).tS) rfl s kI rfl rfl rfl iiz iiz yB fun a w s=> ?_
  refine zA rfl ?_
  refine zVf ?_
  exact wJ s (CU.agg (fQN (prK ps ps.length))) rfl kI rfl rfl (y9 _) (fun cs W h=>h)
theorem zRd {W:Wp} {l:Wq} {ps:List V2} (hl:(SF.row 6 (pvs 1 ps)).p l W) (hn:ps.length<=12) (hT:Tab W):Calls prog 62 #[l] W (Ret W (fI ((arE ps).num.sign)).tS):=by
 have hqb:=zKC dB hl
 refine yF [SF.row 6 (pvs 1 ps)] func62 rfl kI ⟨hl,trivial⟩ fun a s=> ?_
 refine zVb ?_
 refine zB 1 ((2, .u (uI 0)):: []) hmix s kI
  (oc zG<|zE) fun a w1 s=> ?_
 refine zA rfl ?_
 refine zVb ?_
 replace s:=s.drop [2]
 refine zB 4 ((3, .s (SF.row 6 (pvs 1 ps)))::(4, .Z (fQN (prK ps ps.length)))::(5, .Z (uI ((arE ps).num.sign)))::(2, .u (uI ((arE ps).num.sign))):: []) hmix s kI
  (oc zC<|oc (zH zD zSP (fun u0 W hb (h0:(SF.row 6 (pvs 1 ps)).p u0 W)=>zPE h0 hn (hT.below (s.up hb))))<|oc (zH zD zRu (fun u0 W hb (h0:QNp (prK ps ps.length) u0 W)=>(zKn (m:=200) (wH h0 ((zKD hqb _ lr).mono oP)) dB dB (hT.below (s.up hb))).mono (wD (fun v W h=>by rw [<-zQ5];exact h))))<|oc zG<|zE) fun a w2 s=> ?_
 refine zA rfl ?_
 refine zVf ?_
 exact wF s (t:=2) rfl iiz
end Go.Proofs.Wd

namespace Go.Proofs.Wd
open Tryz
set_option maxRecDepth 100000
set_option maxHeartbeats 1000000
open Go.RowKit Lb
def atK (ps:List V2) (k:Nat):Int:=if k=0 then -1 else ((fK ps k:Nat):Int)
theorem zDG {ps:List V2} {k:Nat} (h:0<k):atK ps k=((fK ps k:Nat):Int):=if_neg oP
theorem zNo (ps:List V2) {k:Nat} (h:0<k):fK ps k<k:=by
 obtain ⟨n,rfl⟩: ∃n,k=n+1:=⟨k - 1,by omega⟩
 have:=zRo ps n
 omega
theorem zP9 (ps:List V2):atK ps 1=((0:Nat):Int):=by
 rw [zDG dB]
 have:=zNo ps (show 0<1 by decide)
 omega
theorem zQb {ps:List V2} {k:Nat} (e:decide (zIS (at_ ps k) (at_ ps (fK ps k))<0)=true):atK ps (k+1)=(k:Int):=by
 rw [zDG oP]
 congr 1
 show (if _ then k else fK ps k)=k
 exact if_pos (zVl e)
theorem zQa {ps:List V2} {k:Nat} (e:decide (zIS (at_ ps k) (at_ ps (fK ps k))<0)=false):atK ps (k+1)=((fK ps k:Nat):Int):=by
 rw [zDG oP]
 congr 1
 show (if _ then k else fK ps k)=fK ps k
 exact if_neg (zVj e)
theorem zH1 {m:Nat} {W:Wp} {l:Wq} {ps:List V2} (hl:(SF.row 6 (pvs m ps)).p l W) (hm:m<=100) (hm0:0<m) (hn:ps.length<=1000000) (hT:Tab W):Calls prog 66 #[l] W (Ret W (fI (atK ps ps.length)).tS):=by
 refine yF [(UF.eq l).tS] func66 rfl kI ⟨rfl,trivial⟩ fun a s=> ?_
 replace s:=s.renew [(0, .u (UF.eq l))] (fmz ⟨.inr ⟨_,rfl, .head _⟩,fnz⟩)
 refine zVb ?_
 refine zB 1 ((2, .u (uI 0)):: []) hmix s kI
  (oc zG<|zE) fun a w1 s=> ?_
 refine zA rfl ?_
 refine zVb ?_
 refine zB 1 ((3, .u (uI (-1))):: []) hmix s kI
  (oc zG<|zE) fun a w2 s=> ?_
 refine zA rfl ?_
 refine zVb ?_
 refine zVb ?_
 refine zB 3 ((6, .u (UF.eq l))::(7, .u (uI ((pvs m ps).length:Int)))::(8, .u (uI 0)):: []) hmix s kI
  (oc zC<|oc (y7 (z:=6) (Cs:=pvs m ps) kI (fun v W hb h=>(yL hl h (s.up hb))) (fun _=>rfl))<|oc zC<|zE) fun a w3 s=> ?_
 refine zA rfl ?_
 refine zVe ?_
 refine zBh (fun k=>k<=ps.length) (fun k=> [(0, .u (UF.eq l)),(6, .u (UF.eq l)),(7, .u (uI ((pvs m ps).length:Int))),(3, .u (uI (atK ps k))),(8, .u (uI ((k:Nat):Int)))]) (fun k=>ps.length - k) (0:Nat) (zVm _) (s.keepK _ (fmz ⟨mz5,fmz ⟨.head _,fmz ⟨mz1,fmz ⟨mz3,fmz ⟨mz2,fnz⟩⟩⟩⟩⟩)) fun k a w hx s=> ?_
 have hlz:(pvs m ps).length=ps.length:=by simp
 refine zVb ?_
 refine zB 1 ((9, .u (uB (decide ((k:Int)<((pvs m ps).length:Int))))):: []) hmix s kI
  (oc (z5 .i64 (k:Int) ((pvs m ps).length:Int) (decide ((k:Int)<((pvs m ps).length:Int))) iiz iiz rfl rfl)<|zE) fun a w4 s=> ?_
 refine zA rfl ?_
 refine zVb ?_
 refine StS.cond s (decide ((k:Int)<((pvs m ps).length:Int))) iiz (fun e=> ?_) (fun e=> ?_)
 ·have hk:k<ps.length:=by have:=zVl e;rw [hlz] at this;omega
  refine zVd ?_
  refine zVb ?_
  refine zVe ?_
  refine zVb ?_
  refine zB 3 ((10, .u (uI (k:Int)))::(11, .Y (fPV m (at_ ps k)))::(12, .u (fPV m (at_ ps k))):: []) hmix s kI
   (oc zC<|oc (zZ (z:=6) (Cs:=pvs m ps) (i:=k) (C:=CU.agg (fPV m (at_ ps k))) kI (zAV hk) (fun v W hb h=>(yL hl h (s.up hb))) iiz)<|oc (zR (f:=fPV m (at_ ps k)) 6 kI (hz:=yP _ _))<|zE) fun a w5 s=> ?_
  refine yE (CU.len 6) (cs:=zP6) kI rfl s kI (fun W=>rfl) rfl fun b5 a w s=> ?_
  refine qN (uI (k:Int)) rfl s kI iiz fun a w s=> ?_
  refine zU (CU.agg (fPV m (at_ ps k))) ((fPV m (at_ ps k)).tS) rfl s kI rfl rfl rfl iiz iiz jX fun a w s=> ?_
  refine zA rfl ?_
  refine zVb ?_
  rcases Nat.eq_zero_or_pos k with ek|ek
  ·refine zB 11 ((13, .Z (uI (atK ps k)))::(14, .Z (uB true))::(15, .Z (uB true))::(23, .u (uB true)):: []) hmix s kI
    (oc zC<|oc (z5 .i64 (atK ps k) 0 true iiz iiz (by subst ek;rfl) rfl)<|oc zC<|oc (zF 15 true kI iiz (fun e=>by cases e) (fun _ _=>trivial))<|oc (zF 15 true kI iiz (fun e=>by cases e) (fun _ _=>trivial))<|oc (zF 15 true kI iiz (fun e=>by cases e) (fun _ _=>trivial))<|oc (zF 15 true kI iiz (fun e=>by cases e) (fun _ _=>trivial))<|oc (zF 15 true kI iiz (fun e=>by cases e) (fun _ _=>trivial))<|oc (zF 15 true kI iiz (fun e=>by cases e) (fun _ _=>trivial))<|oc (zF 15 true kI iiz (fun e=>by cases e) (fun _ _=>trivial))<|oc (qX true iiz fO (fun e=>by cases e))<|zE) fun a w6 s=> ?_
   refine zA rfl ?_
   refine StS.cond s true iiz (fun e=> ?_) (fun e=>by cases e)
   replace s:=s.drop [3]
   refine zB 2 ((24, .Z (uI (k:Int)))::(3, .u (uI (atK ps (k+1)))):: []) hmix s kI
    (oc zC<|oc (zG (fun v W _ h=>by rw [show atK ps (k+1)=(k:Int) by subst ek;exact zP9 ps];exact h))<|zE) fun a w7 s=> ?_
   refine zA rfl ?_
   refine yJ 1 ((25, .u (uI ((k+1:Nat):Int))):: []) s kI
    (oc (yX .i64 (k:Int) 1 ((k+1:Nat):Int) iiz iiz (wrap64 _ _ oP oP))<|zE) fun a w8 s=> ?_
   replace s:=s.drop [8]
   refine zDp (uI ((k+1:Nat):Int)) rfl s kI zC kI fun a w s=> ?_
   refine zA rfl ?_
   replace s:=s.popB
   exact ⟨k+1,hk,(by show ps.length - (k+1)<ps.length - k;omega),s.keepK _ (fmz ⟨mz8,fmz ⟨mz9,fmz ⟨zJv,fmz ⟨mz2,fmz ⟨.head _,fnz⟩⟩⟩⟩⟩)⟩
  ·have hf:fK ps k<ps.length:=by have:=zNo ps ek;omega
   rw [zDG ek] at s
   refine zB 11 ((13, .Z (uI ((fK ps k:Nat):Int)))::(14, .Z (uB false))::(15, .Z (uB false))::(16, .Z (fPV m (at_ ps k)))::(17, .Z (UF.eq l))::(18, .Z (uI ((fK ps k:Nat):Int)))::(19, .Y (fPV m (at_ ps (fK ps k))))::(20, .Z (fPV m (at_ ps (fK ps k))))::(21, .Z (uI (zIS (at_ ps k) (at_ ps (fK ps k)))))::(22, .Z (uB (decide (zIS (at_ ps k) (at_ ps (fK ps k))<0))))::(23, .u (uB (decide (zIS (at_ ps k) (at_ ps (fK ps k))<0)))):: []) hmix s kI
    (oc zC<|oc (z5 .i64 ((fK ps k:Nat):Int) 0 false iiz iiz (zVw oP) rfl)<|oc zC<|oc (zF 15 false kI iiz (fun _=>zR (f:=fPV m (at_ ps k)) 6 kI (hz:=yP _ _)) arf)<|oc (zF 15 false kI iiz (fun _=>zC) arf)<|oc (zF 15 false kI iiz (fun _=>zC) arf)<|oc (zF 15 false kI iiz (fun _=>zZ (z:=6) (Cs:=pvs m ps) (i:=(fK ps k)) (C:=CU.agg (fPV m (at_ ps (fK ps k)))) kI (zAV hf) (fun v W hb h=>(yL hl h (s.up hb))) iiz) arf)<|oc (zF 15 false kI iiz (fun _=>zR (f:=fPV m (at_ ps (fK ps k))) 6 kI (hz:=yP _ _)) arf)<|oc (zF 15 false kI iiz (fun _=>zM zD zSO (fun u0 u1 W hb (h0:(fPV m (at_ ps k)).p u0 W) (h1:(fPV m (at_ ps (fK ps k))).p u1 W)=>zQr (m:=m) h0 h1 oP hm0 (hT.below (s.up hb)))) arf)<|oc (zF 15 false kI iiz (fun _=>z5 .i64 (zIS (at_ ps k) (at_ ps (fK ps k))) 0 (decide (zIS (at_ ps k) (at_ ps (fK ps k))<0)) iiz iiz rfl rfl) arf)<|oc (qX false iiz (fun e=>by cases e) fO)<|zE) fun a w9 s=> ?_
   refine zA rfl ?_
   refine StS.cond s (decide (zIS (at_ ps k) (at_ ps (fK ps k))<0)) iiz (fun e=> ?_) (fun e=> ?_)
   ·replace s:=s.drop [3]
    refine zB 2 ((24, .Z (uI (k:Int)))::(3, .u (uI (atK ps (k+1)))):: []) hmix s kI
     (oc zC<|oc (zG (fun v W _ h=>by rw [zQb e];exact h))<|zE) fun a w10 s=> ?_
    refine zA rfl ?_
    refine yJ 1 ((25, .u (uI ((k+1:Nat):Int))):: []) s kI
     (oc (yX .i64 (k:Int) 1 ((k+1:Nat):Int) iiz iiz (wrap64 _ _ oP oP))<|zE) fun a w11 s=> ?_
    replace s:=s.drop [8]
    refine zDp (uI ((k+1:Nat):Int)) rfl s kI zC kI fun a w s=> ?_
    refine zA rfl ?_
    replace s:=s.popB
    exact ⟨k+1,hk,(by show ps.length - (k+1)<ps.length - k;omega),s.keepK _ (fmz ⟨mz8,fmz ⟨mz9,fmz ⟨zJv,fmz ⟨mz2,fmz ⟨.head _,fnz⟩⟩⟩⟩⟩)⟩
   ·rw [<-zQa e] at s
    refine zVd ?_
    refine yJ 1 ((25, .u (uI ((k+1:Nat):Int))):: []) s kI
     (oc (yX .i64 (k:Int) 1 ((k+1:Nat):Int) iiz iiz (wrap64 _ _ oP oP))<|zE) fun a w12 s=> ?_
    replace s:=s.drop [8]
    refine zDp (uI ((k+1:Nat):Int)) rfl s kI zC kI fun a w s=> ?_
    refine zA rfl ?_
    replace s:=s.popB
    exact ⟨k+1,hk,(by show ps.length - (k+1)<ps.length - k;omega),s.keepK _ (fmz ⟨mz7,fmz ⟨mz8,fmz ⟨mz9,fmz ⟨zJv,fmz ⟨.head _,fnz⟩⟩⟩⟩⟩)⟩
 ·have hkN:k=ps.length:=by have h7:=zVj e;rw [hlz] at h7;omega
  refine zVk ?_
  refine zVb ?_
  refine zB 2 ((26, .Z (uI (atK ps k)))::(2, .u (uI (atK ps k))):: []) hmix s kI
   (oc zC<|oc zG<|zE) fun a w13 s=> ?_
  refine zA rfl ?_
  refine zVf ?_
  exact wF s (t:=2) rfl (fun v W h=>by rw [<-hkN];exact h)
end Go.Proofs.Wd

namespace Go.Proofs.Wd
open Tryz
set_option maxRecDepth 100000
set_option maxHeartbeats 1000000
open Go.RowKit Lb
abbrev eR (m:Nat) (ps:List V2) (idx:Nat->Nat) (k:Nat):List UF:= [fPV m (at_ ps (idx k))]
def zLS (F S:Int) (n:Nat) (idx:Nat->Nat):Prop:= -1<=S/\S<=1/\-1000000<=F/\F<=1000000/\ ∀i,i<n->idx i<n/\((0<=(F+(i:Int)*S).tmod (n:Int)/\(F+(i:Int)*S).tmod (n:Int)=((idx i:Nat):Int))∨((F+(i:Int)*S).tmod (n:Int)<0/\(F+(i:Int)*S).tmod (n:Int)+(n:Int)=((idx i:Nat):Int)))
theorem zO4 {w0 w_:Wp} {m b1 b2 b3:Nat} {F S:Int} {l:Wq} {ps:List V2} {idx:Nat->Nat} {C:Nat->Prop} (hh1:w_.heap[b1]?=some (.cells #[l] 22 (0,0))) (hh2:w_.heap[b2]?=some (.cells #[.int .i64 F] 3 (0,0))) (hh3:w_.heap[b3]?=some (.cells #[.int .i64 S] 3 (0,0))) (hl:(SF.row 6 (pvs m ps)).p l w0) (hb0:Below w0.heap.size w0 w_) (hC0: ∀k,C k->w0.heap.size<=k) (hC1: ¬C b1) (hC2: ¬C b2) (hC3: ¬C b3) (hn:ps.length<=1000000) (hR:zLS F S ps.length idx):
  ItD prog 122 #[pO b1 0,pO b2 0,pO b3 0] (eR m ps idx) ps.length C w_:=by
 intro l_ J Z W hwW hbW hkW hJs hZs hround hJ0
 obtain ⟨hS1,hS2,hF1,hF2,hidx⟩:=hR
 have hlc:=zCZ hl
 have hw0:w0.heap.size<=w_.heap.size:=hb0.size
 have hbW0:Below w0.heap.size w0 W:=hb0.trans (hbW.mono hb0.size)
 have hlW:=(SF.row 6 (pvs m ps)).st _ _ _ hl hbW0
 have hW1:W.heap[b1]?=some (.cells #[l] 22 (0,0)):=(hbW.block b1 (zVc.1 hh1).1).trans hh1
 have hW2:W.heap[b2]?=some (.cells #[.int .i64 F] 3 (0,0)):=(hbW.block b2 (zVc.1 hh2).1).trans hh2
 have hW3:W.heap[b3]?=some (.cells #[.int .i64 S] 3 (0,0)):=(hbW.block b3 (zVc.1 hh3).1).trans hh3
 refine zFV func122 rfl ?_
 have s:=zFv (w:=W) (fn:=f122) (args:=#[.func (.yield l_) #[] #[]]++#[pO b1 0,pO b2 0,pO b3 0]) noS [(0,UF.eq (.func (.yield l_) #[] #[]))] [⟨1,22,wB [l],b1,true⟩,⟨2,3,wB [.int .i64 F],b2,true⟩,⟨3,3,wB [.int .i64 S],b3,true⟩] kI (fun q hq=>by obtain rfl:=zVh.1 hq;exact ⟨by simp,rfl⟩) ⟨⟨[l],rfl, .inl rfl,hW1,rfl,by simp [hlc.2],fun y hy=> .inr ⟨rfl,by rcases zVg.1 hy with rfl|hy;rfl;obtain rfl:=zVh.1 hy;rfl⟩⟩,⟨[.int .i64 F],rfl, .inl rfl,hW2,rfl,rfl,fun y hy=> .inr ⟨rfl,by obtain rfl:=zVh.1 hy;rfl⟩⟩,⟨[.int .i64 S],rfl, .inl rfl,hW3,rfl,rfl,fun y hy=>by cases hy⟩,trivial⟩ (fun x hx=>by
  simp only [zVg,zVq,zVr] at hx
  rcases hx with rfl|rfl|rfl
  ·show 1<4;decide
  ·show 2<4;decide
  ·show 3<4;decide)
 generalize ({ tmps:=#[.func (.yield l_) #[] #[]]++#[pO b1 0,pO b2 0,pO b3 0]++Array.replicate (f122.ntmps - (#[.func (.yield l_) #[] #[]]++#[pO b1 0,pO b2 0,pO b3 0]:Array Wq).size) undef,defers:= [] }:Act)=a at s ⊢
 have hlz:(pvs m ps).length=ps.length:=by simp
 have hro: ∀q, ¬inB [⟨1,22,wB [l],b1,true⟩,⟨2,3,wB [.int .i64 F],b2,true⟩,⟨3,3,wB [.int .i64 S],b3,true⟩] q:=fun q ⟨x,hx,_,hr⟩=>by
  simp only [zVg,zVq,zVr] at hx
  rcases hx with rfl|rfl|rfl<;>cases hr
 have hcx: ∀x,x∈([⟨1,22,wB [l],b1,true⟩,⟨2,3,wB [.int .i64 F],b2,true⟩,⟨3,3,wB [.int .i64 S],b3,true⟩]:List Bx)->x.b<w_.heap.size/\ ¬C x.b:=fun x hx=>by
  simp only [zVg,zVq,zVr] at hx
  rcases hx with rfl|rfl|rfl
  ·exact ⟨(zVc.1 hh1).1,hC1⟩
  ·exact ⟨(zVc.1 hh2).1,hC2⟩
  ·exact ⟨(zVc.1 hh3).1,hC3⟩
 refine zVb ?_
 refine zB 3 ((7, .u (UF.eq l))::(8, .u (uI ((pvs m ps).length:Int)))::(9, .u (uI 0)):: []) hmix s kI
  (oc (yW (C:=(wB [l]).cf) kI (fun _ _ h=>h.2) zAq)<|oc (y7 (z:=6) (Cs:=pvs m ps) kI (fun v W hb h=>(yL hlW h (s.up hb))) (fun _=>rfl))<|oc zC<|zE) fun a w1 s=> ?_
 refine zA rfl ?_
 refine zVe ?_
 have hJw:J 0 (fun _=>False) w1:=hJs _ _ _ _ _ hJ0 s.below (fun q hq=>hq.elim)
 have hB1:=hbW0.trans (s.below.mono hbW0.size)
 have hW0:=s.gr.size
 replace s:=(s.keepK [(0, .u (UF.eq (.func (.yield l_) #[] #[]))),(7, .u (UF.eq l)),(8, .u (uI ((pvs m ps).length:Int))),(9, .u (uI ((0:Nat):Int)))] (fmz ⟨mz3,fmz ⟨.head _,fmz ⟨mz1,fmz ⟨mz2,fnz⟩⟩⟩⟩)).self (yN kI)
 refine zCw (fun k a w=>k<=ps.length/\J k (fun _=>False) w/\Below w0.heap.size w0 w/\W.heap.size<=w.heap.size/\StS (inB [⟨1,22,wB [l],b1,true⟩,⟨2,3,wB [.int .i64 F],b2,true⟩,⟨3,3,wB [.int .i64 S],b3,true⟩]) w [(0, .u (UF.eq (.func (.yield l_) #[] #[]))),(7, .u (UF.eq l)),(8, .u (uI ((pvs m ps).length:Int))),(9, .u (uI ((k:Nat):Int)))] [⟨1,22,wB [l],b1,true⟩,⟨2,3,wB [.int .i64 F],b2,true⟩,⟨3,3,wB [.int .i64 S],b3,true⟩] f122.ntmps [] a w) (fun k=>ps.length - k) 0 ⟨zVm _,hJw,hB1,hW0,s⟩ fun k a w ⟨hk',hJ,hbw,hWs,s⟩=> ?_
 replace s:=s.toSt hro rfl
 have hlw:=(SF.row 6 (pvs m ps)).st _ _ _ hl hbw
 refine zVb ?_
 refine zB 1 ((10, .u (uB (decide ((k:Int)<((pvs m ps).length:Int))))):: []) hmix s kI
  (oc (z5 .i64 (k:Int) ((pvs m ps).length:Int) (decide ((k:Int)<((pvs m ps).length:Int))) iiz iiz rfl rfl)<|zE) fun a w2 s=> ?_
 refine zA rfl ?_
 refine zVb ?_
 refine StS.cond s (decide ((k:Int)<((pvs m ps).length:Int))) iiz (fun e=> ?_) (fun e=> ?_)
 ·have hk:k<ps.length:=by have h7:=zVl e;rw [hlz] at h7;omega
  obtain ⟨hix,hsg⟩:=hidx k hk
  have hkS: -1000000<=(k:Int)*S/\(k:Int)*S<=1000000:=by
   rcases (by omega:S= -1∨S=0∨S=1) with rfl|rfl|rfl<;>omega
  refine zVd ?_
  refine zVb ?_
  refine zVe ?_
  refine zVb ?_
  refine zB 2 ((11, .s (uI (k:Int)).tS)::(5, .u (uI (k:Int))):: []) hmix s kI
   (oc zC<|oc zG<|zE) fun a w3 s=> ?_
  refine zA rfl ?_
  refine zVb ?_
  refine zB 9 ((12, .s (uI F).tS)::(13, .s (uI (k:Int)).tS)::(14, .s (uI S).tS)::(15, .s (uI ((k:Int)*S)).tS)::(16, .s (uI (F+(k:Int)*S)).tS)::(17, .s (UF.eq l).tS)::(18, .s (uI ((pvs m ps).length:Int)).tS)::(19, .s (uI ((F+(k:Int)*S).tmod (ps.length:Int))).tS)::(6, .u (uI ((F+(k:Int)*S).tmod (ps.length:Int)))):: []) hmix s kI
   (oc (yW (C:=(wB [.int .i64 F]).cf) kI (fun _ _ h=>h.2) zAq)<|oc zC<|oc (yW (C:=(wB [.int .i64 S]).cf) kI (fun _ _ h=>h.2) zAq)<|oc (zPu .i64 (k:Int) S ((k:Int)*S) iiz iiz (by rw [IntKind.wrap_i64];omega))<|oc (yX .i64 F ((k:Int)*S) (F+(k:Int)*S) iiz iiz (by rw [IntKind.wrap_i64];omega))<|oc (yW (C:=(wB [l]).cf) kI (fun _ _ h=>h.2) zAq)<|oc (y7 (z:=6) (Cs:=pvs m ps) kI (fun v W hb h=>(yL hlw h (s.up hb))) (fun _=>rfl))<|oc (zB9 .i64 (F+(k:Int)*S) ((pvs m ps).length:Int) ((F+(k:Int)*S).tmod (ps.length:Int)) iiz iiz (by rw [hlz];omega) (by rw [hlz]))<|oc zG<|zE) fun a w4 s=> ?_
  refine zA rfl ?_
  refine zVb ?_
  rcases hsg with ⟨hs0,hse⟩|⟨hs0,hse⟩
  ·refine zVb ?_
   refine zB 2 ((20, .s (uI ((F+(k:Int)*S).tmod (ps.length:Int))).tS)::(21, .u (uB false)):: []) hmix s kI
    (oc zC<|oc (z5 .i64 ((F+(k:Int)*S).tmod (ps.length:Int)) 0 false iiz iiz (zVw oP) rfl)<|zE) fun a w5 s=> ?_
   refine zA rfl ?_
   refine StS.cond s false iiz (fun e=>by cases e) (fun e=> ?_)
   refine zVd ?_
   rw [hse] at s
   refine zVb ?_
   refine zB 5 ((26, .u (UF.eq (.func (.yield l_) #[] #[])))::(27, .s (UF.eq l).tS)::(28, .s (uI ((idx k:Nat):Int)).tS)::(29, .Y (fPV m (at_ ps (idx k))))::(30, .u (fPV m (at_ ps (idx k)))):: []) hmix s kI
    (oc zC<|oc (yW (C:=(wB [l]).cf) kI (fun _ _ h=>h.2) zAq)<|oc zC<|oc (zZ (z:=6) (Cs:=pvs m ps) (i:=idx k) (C:=CU.agg (fPV m (at_ ps (idx k)))) kI (zAV hix) (fun v W hb h=>(yL hlw h (s.up hb))) iiz)<|oc (zR (f:=fPV m (at_ ps (idx k))) 6 kI (hz:=yP _ _))<|zE) fun a w4 s=> ?_
   have hJ4:J k (fun _=>False) w4:=hJs _ _ _ _ _ hJ s.below (fun q hq=>hq.elim)
   have hbW4:=hbw.trans (s.below.mono hbw.size)
   have hW4:W.heap.size<=w4.heap.size:=zVi hWs s.gr.size
   refine zFr rfl s iiz kI (yN kI) hcx (hround _ _ _ _ hk hJ4 (fun q hq=>hq.elim) ⟨by simp,fun i f hi=> ?_⟩) fun a w5 bv hr hbv s=> ?_
   ·match i,hi with
    |0,hi=>obtain rfl:=zVB hi;rw [zRq];exact s.at.sl 30
   have hsz2:=hr.size
   have hbW5:=zEX hbW4 hr hw0 hC0
   have hbz:bv=false->Z w5:=fun e2=>by rcases hbv with ⟨e3,_⟩|⟨_,hz⟩;rw [e2] at e3;cases e3;exact hz
   have hbj:bv=true->J (k+1) (fun _=>False) w5:=fun e2=>by rcases hbv with ⟨_,hj⟩|⟨e3,_⟩;exact hj;rw [e2] at e3;cases e3
   replace s:=s.toSt hro rfl
   refine zDp (uB (!bv)) rfl s kI (zEx bv iiz (fun _=>rfl)) kI fun a w s=> ?_
   refine zA rfl ?_
   refine StS.cond s (!bv) iiz (fun e=> ?_) (fun e=> ?_)
   ·have hz:=hbz (by simpa using e)
    refine zVf ?_
    exact ⟨s.nd, .tuple #[],by simp [results,results122],⟨_,rfl⟩, .inr (hZs _ _ hz s.below)⟩
   ·have hJ5:=hbj (by simpa using e)
    refine zVd ?_
    refine yJ 1 ((33, .u (uI ((k+1:Nat):Int))):: []) s kI
     (oc (yX .i64 (k:Int) 1 ((k+1:Nat):Int) iiz iiz (wrap64 _ _ oP oP))<|zE) fun a w6 s=> ?_
    replace s:=s.drop [9]
    refine zDp (uI ((k+1:Nat):Int)) rfl s kI zC kI fun a w7 s=> ?_
    refine zA rfl ?_
    have hsz4:=s.gr.size
    refine ⟨k+1,by show ps.length - (k+1)<ps.length - k;omega,hk,hJs _ _ _ _ _ hJ5 s.below (fun q hq=>hq.elim),hbW5.trans (s.below.mono hbW5.size),by omega,(s.keepK _ ?_).self (yN kI)⟩
    exact fmz ⟨zJv,fmz ⟨zRc,fmz ⟨zSg,fmz ⟨.head _,fnz⟩⟩⟩⟩
  ·refine zVb ?_
   refine zB 2 ((20, .s (uI ((F+(k:Int)*S).tmod (ps.length:Int))).tS)::(21, .u (uB true)):: []) hmix s kI
    (oc zC<|oc (z5 .i64 ((F+(k:Int)*S).tmod (ps.length:Int)) 0 true iiz iiz (decide_eq_true oP) rfl)<|zE) fun a w5 s=> ?_
   refine zA rfl ?_
   refine StS.cond s true iiz (fun e=> ?_) (fun e=>by cases e)
   refine yJ 4 ((22, .s (uI ((F+(k:Int)*S).tmod (ps.length:Int))).tS)::(23, .s (UF.eq l).tS)::(24, .s (uI ((pvs m ps).length:Int)).tS)::(25, .u (uI ((idx k:Nat):Int))):: []) s kI
    (oc zC<|oc (yW (C:=(wB [l]).cf) kI (fun _ _ h=>h.2) zAq)<|oc (y7 (z:=6) (Cs:=pvs m ps) kI (fun v W hb h=>(yL hlw h (s.up hb))) (fun _=>rfl))<|oc (yX .i64 ((F+(k:Int)*S).tmod (ps.length:Int)) ((pvs m ps).length:Int) ((idx k:Nat):Int) iiz iiz (by rw [hlz,hse];exact wrap64 _ _ rfl oP))<|zE) fun a w6 s=> ?_
   replace s:=s.drop [6]
   refine qN (uI ((idx k:Nat):Int)) rfl s kI iiz fun a w s=> ?_
   refine zA rfl ?_
   refine zVb ?_
   refine zB 5 ((26, .u (UF.eq (.func (.yield l_) #[] #[])))::(27, .s (UF.eq l).tS)::(28, .s (uI ((idx k:Nat):Int)).tS)::(29, .Y (fPV m (at_ ps (idx k))))::(30, .u (fPV m (at_ ps (idx k)))):: []) hmix s kI
    (oc zC<|oc (yW (C:=(wB [l]).cf) kI (fun _ _ h=>h.2) zAq)<|oc zC<|oc (zZ (z:=6) (Cs:=pvs m ps) (i:=idx k) (C:=CU.agg (fPV m (at_ ps (idx k)))) kI (zAV hix) (fun v W hb h=>(yL hlw h (s.up hb))) iiz)<|oc (zR (f:=fPV m (at_ ps (idx k))) 6 kI (hz:=yP _ _))<|zE) fun a w4 s=> ?_
   have hJ4:J k (fun _=>False) w4:=hJs _ _ _ _ _ hJ s.below (fun q hq=>hq.elim)
   have hbW4:=hbw.trans (s.below.mono hbw.size)
   have hW4:W.heap.size<=w4.heap.size:=zVi hWs s.gr.size
   refine zFr rfl s iiz kI (yN kI) hcx (hround _ _ _ _ hk hJ4 (fun q hq=>hq.elim) ⟨by simp,fun i f hi=> ?_⟩) fun a w5 bv hr hbv s=> ?_
   ·match i,hi with
    |0,hi=>obtain rfl:=zVB hi;rw [zRq];exact s.at.sl 30
   have hsz2:=hr.size
   have hbW5:=zEX hbW4 hr hw0 hC0
   have hbz:bv=false->Z w5:=fun e2=>by rcases hbv with ⟨e3,_⟩|⟨_,hz⟩;rw [e2] at e3;cases e3;exact hz
   have hbj:bv=true->J (k+1) (fun _=>False) w5:=fun e2=>by rcases hbv with ⟨_,hj⟩|⟨e3,_⟩;exact hj;rw [e2] at e3;cases e3
   replace s:=s.toSt hro rfl
   refine zDp (uB (!bv)) rfl s kI (zEx bv iiz (fun _=>rfl)) kI fun a w s=> ?_
   refine zA rfl ?_
   refine StS.cond s (!bv) iiz (fun e=> ?_) (fun e=> ?_)
   ·have hz:=hbz (by simpa using e)
    refine zVf ?_
    exact ⟨s.nd, .tuple #[],by simp [results,results122],⟨_,rfl⟩, .inr (hZs _ _ hz s.below)⟩
   ·have hJ5:=hbj (by simpa using e)
    refine zVd ?_
    refine yJ 1 ((33, .u (uI ((k+1:Nat):Int))):: []) s kI
     (oc (yX .i64 (k:Int) 1 ((k+1:Nat):Int) iiz iiz (wrap64 _ _ oP oP))<|zE) fun a w6 s=> ?_
    replace s:=s.drop [9]
    refine zDp (uI ((k+1:Nat):Int)) rfl s kI zC kI fun a w7 s=> ?_
    refine zA rfl ?_
    have hsz4:=s.gr.size
    refine ⟨k+1,by show ps.length - (k+1)<ps.length - k;omega,hk,hJs _ _ _ _ _ hJ5 s.below (fun q hq=>hq.elim),hbW5.trans (s.below.mono hbW5.size),by omega,(s.keepK _ ?_).self (yN kI)⟩
    exact fmz ⟨zRc,fmz ⟨zSg,fmz ⟨zRb,fmz ⟨.head _,fnz⟩⟩⟩⟩
 ·have hkN:k=ps.length:=by have h7:=zVj e;rw [hlz] at h7;omega
  refine zVk ?_
  exact ⟨s.nd, .tuple #[],by simp [results,results122],⟨_,rfl⟩, .inl ⟨_,by rw [<-hkN];exact hJs _ _ _ _ _ hJ s.below (fun q hq=> .inl hq)⟩⟩
end Go.Proofs.Wd

namespace Go.Proofs.Wd
open Tryz
set_option maxRecDepth 100000
set_option maxHeartbeats 1000000
open Go.RowKit Lb
def rgV (ps:List V2) (idx:Nat->Nat):List V2:=(List.range ps.length).map fun k=>at_ ps (idx k)
theorem zO5 {m:Nat} {ps:List V2} {idx:Nat->Nat} {k:Nat} (h:k<ps.length):pvs m ((rgV ps idx).take (k+1))=pvs m ((rgV ps idx).take k)++ [CU.agg (fPV m (at_ ps (idx k)))]:=by
 have e:(rgV ps idx)[k]?=some (at_ ps (idx k)):=by unfold rgV;rw [zVu,List.getElem?_range h];rfl
 rw [List.take_add_one,e]
 simp [pvs]
theorem zPs {w00 W:Wp} {m c1 c2 c3:Nat} {FF SS:Int} {l:Wq} {ps:List V2} {idx:Nat->Nat} (hbW:Below w00.heap.size w00 W) (ha1:W.heap[c1]?=some (.cells #[l] 22 (0,0))) (ha2:W.heap[c2]?=some (.cells #[.int .i64 FF] 3 (0,0))) (ha3:W.heap[c3]?=some (.cells #[.int .i64 SS] 3 (0,0))) (hl:(SF.row 6 (pvs m ps)).p l w00) (hnL:ps.length<=1000000) (hR:zLS FF SS ps.length idx):Calls prog 121 #[.slice none 0 0,(.func (.func 122) #[] #[pO c1 0,pO c2 0,pO c3 0])] W (Ret W (wE W 30 6 (pvs m (rgV ps idx)))):=by
 refine zKa [(UF.eq (.slice none 0 0)).tS,(UF.eq (.func (.func 122) #[] #[pO c1 0,pO c2 0,pO c3 0])).tS] func121 rfl kI ⟨rfl,rfl,trivial⟩ fun a s=> ?_
 replace s:=s.renew [(0, .u (UF.eq (.slice none 0 0))),(1, .u (UF.eq (.func (.func 122) #[] #[pO c1 0,pO c2 0,pO c3 0])))] (fmz ⟨.inr ⟨_,rfl, .head _⟩,fmz ⟨.inr ⟨_,rfl,mz1⟩,fnz⟩⟩)
 refine zVb ?_
 refine zB 0 [] hmix s kI
  zE fun a w1 s=> ?_
 refine qD (wB [.slice none 0 0]) rfl s kI (fun v W h=>zE6 h rfl rfl) fun b2 a w s=> ?_
 refine qN (UF.eq (.slice none 0 0)) rfl s kI iiz fun a w s=> ?_
 refine zA rfl ?_
 refine zVb ?_
 refine zVb ?_
 refine zB 1 ((6, .u (UF.eq (.func (.func 122) #[] #[pO c1 0,pO c2 0,pO c3 0]))):: []) hmix s kI
  (oc zC<|zE) fun a w2 s=> ?_
 refine zA rfl ?_
 refine zVe ?_
 obtain ⟨cs2,hh2,hc2,_⟩:=s.boxAt (c:=2) rfl
 obtain rfl:cs2= [.slice none 0 0]:=hc2
 obtain ⟨base,hbase⟩: ∃b,b=w2.heap.size:=⟨_,rfl⟩
 have hb2:b2<base:=by rw [hbase];exact s.old _ (.head _)
 have hW2b:W.heap.size<=b2:=s.inB_new ⟨_, .head _,rfl,rfl⟩
 replace s:=s.keepK [(6, .u (UF.eq (.func (.func 122) #[] #[pO c1 0,pO c2 0,pO c3 0])))] (fmz ⟨.head _,fnz⟩)
 replace s:StS noS W _ [⟨2,22,CU.len 1,b2,false⟩] f121.ntmps _ a w2:=s.weakB 2 (CU.len 1) rfl (yQ kI) (fun cs W h=>by rw [show cs=_ from h];rfl)
 have hinB: ∀q,inB ([⟨2,22,CU.len 1,b2,false⟩]) q->q=b2:=fun q ⟨x,hx,e,_⟩=>by obtain rfl:=zVh.1 hx;exact e.symm
 have hc1:w2.heap[c1]?=some (.cells #[l] 22 (0,0)):=(s.below.block c1 (zVc.1 ha1).1).trans ha1
 have hc2:w2.heap[c2]?=some (.cells #[.int .i64 FF] 3 (0,0)):=(s.below.block c2 (zVc.1 ha2).1).trans ha2
 have hc3:w2.heap[c3]?=some (.cells #[.int .i64 SS] 3 (0,0)):=(s.below.block c3 (zVc.1 ha3).1).trans ha3
 have hq1:c1<W.heap.size:=(zVc.1 ha1).1
 have hq2:c2<W.heap.size:=(zVc.1 ha2).1
 have hq3:c3<W.heap.size:=(zVc.1 ha3).1
 refine zJX (N:=ps.length) (fun k=> [⟨2,22,CU.len 1,b2,false⟩]) ([⟨2,22,CU.len 1,b2,false⟩]) (.exit 0) (fun k=> [(7, .u (fPV m (at_ ps (idx k))))]) s iiz (enters_of func122 kI rfl) (zO4 (w0:=w00) hc1 hc2 hc3 hl (hbW.trans (s.below.mono hbW.size)) (fun q hq=>by have:=hbW.size;rw [hinB q hq];omega) (fun hc=>by have:=hinB _ hc;omega) (fun hc=>by have:=hinB _ hc;omega) (fun hc=>by have:=hinB _ hc;omega) hnL hR) (X:=fun k R W'=>base<=W'.heap.size/\ ∃v,W'.heap[b2]?=some (.cells #[v] 22 (0,0))/\(∀g,v.ownBlock=some g->R g)/\zAs W' base 30 6 v (pvs m ((rgV ps idx).take k))) (XZ:=fun _=>False) (fun k R A B hkc ⟨h1,v,h2,h3,h4⟩=>⟨zVi h1 hkc.1,v,hkc.2 _ _ h2 rfl,h3,h4.keepC hkc⟩) fO ⟨by rw [hbase];exact Nat.le_refl _,_,hh2,fun g hg=>by simp [Value.ownBlock] at hg,zAs.nil _ _ _ _⟩ (fun k=>rfl) ?_ rfl rfl rfl (fun k=>rfl) rfl (fun l_ k R xs WR hk hXk hRr hsz so s=> ?_) (fun D WD R hXN s=> ?_) (fun D WD hz s=>hz.elim)
 ·intro k q hq
  obtain rfl:=zVh.1 hq
  exact .inr ⟨0,_,rfl,rfl,rfl⟩
 ·obtain ⟨hbz,v,hv1,hv2,hv3⟩:=hXk
  replace s:=s.is1 hv1
  obtain ⟨A9,n9,c9,rfl⟩:=zB2 hv3
  have hWR:b2<WR.heap.size:=zVy hb2 hbz
  generalize ({ tmps:=_,defers:= [] }:Act)=a at s ⊢
  replace s:=s.move (fun q=>q=b2) (fun q ⟨x,hx,e,_⟩=>by obtain rfl:=zVh.1 hx;exact e.symm) kI
  have sR:=s
  refine zB 0 [] hmix s kI
   zE fun a w3 s=> ?_
  have hszR:=s.gr.size
  have h5sz:=s.gr.size
  refine zFt (CU.len 6) (cs:=zP6) kI rfl s kI (fun W=>rfl) rfl fun b5 a w hb5n s=> ?_
  replace hb5n:=zVi h5sz hb5n
  refine zU (CU.agg (fPV m (at_ ps (idx k)))) ((fPV m (at_ ps (idx k))).tS) rfl s kI rfl rfl rfl iiz iiz jX fun a w s=> ?_
  refine zA rfl ?_
  have hbl:=s.gr
  have hb5:WR.heap.size<=b5:=hb5n
  refine ⟨s.gr.sub (fun q hq=> .inl ⟨_, .head _,hq.symm,rfl⟩),fun W2 hkc hcell hW2=> ?_⟩
  have hKU1:yO WR _:=y8 (s.gr.sub (fun q hq=>⟨_, .head _,hq.symm,rfl⟩)) sR.bx
  have hg2: ∀g,Value.ownBlock (.slice A9 n9 c9)=some g->g≠b2/\g≠b5/\g<WR.heap.size:=fun g hg=>by have h1:=hv3.lt g hg;omega
  have hR1:=hv3.keep (fun g hg=>s.gr.block g (hg2 g hg).2.2 (hg2 g hg).1) hKU1
  have hR2:=hR1.keepC hkc
  have hsz2:WR.heap.size<=W2.heap.size:=zVi s.gr.size hkc.1
  replace s:=hW2 _ _ (s.wider (fun q=>inB ([⟨2,22,CU.len 1,b2,false⟩]) q∨WR.heap.size<=q∨R q) (fun q hq=> .inl ⟨_, .head _,hq.symm,rfl⟩) kI)
  have sW:=s
  replace s:=s.move (fun q=>q=b2∨q=b5) (fun q ⟨x,hx,e,_⟩=>by rcases zVg.1 hx with rfl|hx;exact .inr e.symm;obtain rfl:=zVh.1 hx;exact .inl e.symm) kI
  have sM:=s
  refine zVe ?_
  refine yD 3 ((8, .u (UF.eq (.slice A9 n9 c9)))::(9, .Z (fPV m (at_ ps (idx k))))::(10, .s (SF.row 6 [CU.agg (fPV m (at_ ps (idx k)))])):: []) hmix s kI
   (oc (yW (C:=(wB [.slice A9 n9 c9]).cf) kI (fun _ _ h=>h.2) zAq)<|oc (zR (f:=fPV m (at_ ps (idx k))) 6 kI (hz:=yP _ _))<|oc (jP (fun u W (hu:(fPV m (at_ ps (idx k))).p u W)=>zJ2 hu))<|zE) fun a w4 s hr=> ?_
  have hKU3:yO W2 _:=y8 (s.gr.sub (fun q hq=>by rcases hq with hq|hq;exact ⟨_,mz1,hq.symm,rfl⟩;exact ⟨_, .head _,hq.symm,rfl⟩)) sM.bx
  have hR3:=hR2.keep (fun g hg=>s.gr.block g (zVy (hg2 g hg).2.2 hsz2) (fun hq=>by have:=hg2 g hg;rcases hq with hq|hq<;>omega)) hKU3
  have hsz3:=s.gr.size
  replace s:=wM sW s (fun q hq=>by rcases hq with rfl|rfl;exact .inl (.inl ⟨_, .head _,rfl,rfl⟩);exact .inl (.inr (.inl hb5))) kI
  refine zNS ([CU.agg (fPV m (at_ ps (idx k)))]) s (zVi hbz (zVi hsz2 hsz3)) hR3 (fun g hg=> .inl (.inr (.inr (hv2 g hg)))) rfl kI kI kI (s.val (.head _)) (hr (_,_) mz2) (zPq m [_]) (by simp;omega) (fun x hx e=>by have:=hg2 _ e;rcases zVg.1 hx with rfl|hx;exact this.2.1 rfl;obtain rfl:=zVh.1 hx;exact this.1 rfl) fun v' a w hwz hR4 hob hnb s=> ?_
  rw [<-zO5 hk] at hR4
  obtain ⟨A8,n8,c8,rfl⟩:=zB2 hR4
  have sA:=s
  replace s:=s.move (fun q=>q=b2∨q=b5) (fun q ⟨x,hx,e,_⟩=>by rcases zVg.1 hx with rfl|hx;exact .inr e.symm;obtain rfl:=zVh.1 hx;exact .inl e.symm) kI
  have sN:=s
  refine jH (c:=2) (o:=0) (kk:=1) (wB [.slice A8 n8 c8]) ((UF.eq (.slice A8 n8 c8)).tS) rfl s kI rfl rfl (fun _ _ h=>h.1) iiz (zEK fun cs W h=>by rw [show cs=_ from h];rfl) fun a w s=> ?_
  refine zA rfl ?_
  have hKU5:yO _ _:=y8 (s.gr.sub (fun q hq=>by rcases hq with hq|hq;exact ⟨_,mz1,hq.symm,rfl⟩;exact ⟨_, .head _,hq.symm,rfl⟩)) sN.bx
  have hR5:=hR4.keep (fun g hg=>s.gr.block g (hR4.lt g hg).2 (fun hq=>by rcases hq with hq|hq;exact hnb _ mz1 (by rw [hg,hq]);exact hnb _ (.head _) (by rw [hg,hq]))) hKU5
  have hsz5:=s.gr.size
  obtain ⟨cs9,hh9,hc9,_⟩:=s.boxAt (c:=2) rfl
  obtain rfl:cs9= [.slice A8 n8 c8]:=hc9
  replace s:=wM sA s (fun q hq=>by rcases hq with rfl|rfl;exact .inl (.inl ⟨_, .head _,rfl,rfl⟩);exact .inl (.inr (.inl hb5))) kI
  replace s:=s.popB
  exact ⟨(s.keepK [] fnz).weakB 2 (CU.len 1) rfl (yQ kI) (fun cs W h=>by rw [show cs=_ from h];rfl),fun q=>Value.ownBlock (.slice A8 n8 c8)=some q,fun q hq=>by rcases hob with e|e;exact .inl (hv2 q (e.symm.trans hq));rw [e] at hq;injection hq with hq;exact .inr oP,fun q hq=>zCs hR5 hq,by omega,_,hh9,fun g hg=>hg,hR5⟩
 ·obtain ⟨hbz,v,hv1,hv2,hv3⟩:=hXN
  replace s:=s.is1 hv1
  rw [List.take_of_length_le (by simp [rgV])] at hv3
  have hbW9:W.heap.size<=base:=by omega
  generalize ({ a with defers:=mark D::a.defers }:Act)=a at s ⊢
  refine zVb ?_
  refine yD 2 ((12, .s (wE W 30 6 (pvs m (rgV ps idx))))::(4, .s (wE W 30 6 (pvs m (rgV ps idx)))):: []) hmix s kI
   (oc (zBA (v:=v) (f:=wE W 30 6 (pvs m (rgV ps idx))) kI (fun _ _ h=>h.2) (hv3.mono hbW9))<|oc zG<|zE) fun a w5 s hr=> ?_
  refine zA rfl ?_
  refine zVf ?_
  exact s.resM (v:=a.tmps.getD 4 undef) (fun w' _=>by simp [results,results121]) (fun w' ho=>zAs.keepC (hr (_,_) mz1) (zDd ho))
theorem zKJ {w00 W:Wp} {m c1 c2 c3:Nat} {FF SS:Int} {l:Wq} {ps:List V2} {idx:Nat->Nat} (hbW:Below w00.heap.size w00 W) (ha1:W.heap[c1]?=some (.cells #[l] 22 (0,0))) (ha2:W.heap[c2]?=some (.cells #[.int .i64 FF] 3 (0,0))) (ha3:W.heap[c3]?=some (.cells #[.int .i64 SS] 3 (0,0))) (hl:(SF.row 6 (pvs m ps)).p l w00) (hnL:ps.length<=1000000) (hR:zLS FF SS ps.length idx):Calls prog 92 #[(.func (.func 122) #[] #[pO c1 0,pO c2 0,pO c3 0])] W (Ret W (wE W 30 6 (pvs m (rgV ps idx)))):=by
 refine yF [(UF.eq (.func (.func 122) #[] #[pO c1 0,pO c2 0,pO c3 0])).tS] func92 rfl kI ⟨rfl,trivial⟩ fun a s=> ?_
 refine zVb ?_
 refine zB 1 ((2, .u (UF.eq (.slice none 0 0))):: []) hmix s kI
  (oc zG<|zE) fun a w1 s=> ?_
 refine zA rfl ?_
 refine zVb ?_
 have hgs1:=s.gr.size
 replace s:=s.drop [2]
 refine yD 3 ((3, .Z (UF.eq (.func (.func 122) #[] #[pO c1 0,pO c2 0,pO c3 0])))::(4, .s (wE w1 30 6 (pvs m (rgV ps idx))))::(2, .s (wE w1 30 6 (pvs m (rgV ps idx)))):: []) hmix s kI
  (oc zC<|oc (zM zD zRT (fun u0 u1 W hb (h0:u0= .slice none 0 0) h1=>by rw [show u0=_ from h0,show u1=_ from h1];exact (zPs (hbW.trans ((s.up hb).mono hbW.size)) (((s.up hb).block c1 (zVc.1 ha1).1).trans ha1) (((s.up hb).block c2 (zVc.1 ha2).1).trans ha2) (((s.up hb).block c3 (zVc.1 ha3).1).trans ha3) hl hnL hR).mono (wD (qQ hb.size))))<|oc zG<|zE) fun a w2 s hr=> ?_
 refine zA rfl ?_
 refine zVf ?_
 exact StS.resN s (zVt _ _) rfl (by have:=hr (_,_) mz2;exact zAs.mono this hgs1)
end Go.Proofs.Wd

namespace Go.Proofs.Wd
open Tryz
set_option maxRecDepth 100000
set_option maxHeartbeats 1000000
open Go.RowKit Lb
section
variable {F:Fence} {m:Nat} {P:Program} {w0:Wp} {ops:Array Oper} {G:Nat->SF} {d:Tmp} {ty:Wr} {pos:String} {aft:Array Edge}
theorem zM1 {f:FuncId} {x y z:Operand} (h: ∀u v q W,Below w0.heap.size w0 W->(fct G x).p u W->(fct G y).p v W->(fct G z).p q W->(G d).p (.func (.func f) #[] #[u,v,q]) W):qK F m P w0 ops G ⟨some d, .makeFunc (.func f) #[] #[x,y,z],ty,pos,aft,none⟩:=
 zKS fun b W hb hh=>by simpa using h _ _ _ W hb (hh x fQ) (hh y fQ) (hh z fQ)
end
def zLs (l:Wq) (FF SS:Int):SF:=⟨fun v w=> ∃b1 b2 b3,v= .func (.func 122) #[] #[pO b1 0,pO b2 0,pO b3 0]/\w.heap[b1]?=some (.cells #[l] 22 (0,0))/\w.heap[b2]?=some (.cells #[.int .i64 FF] 3 (0,0))/\w.heap[b3]?=some (.cells #[.int .i64 SS] 3 (0,0)),
 fun v w w' ⟨b1,b2,b3,e,h1,h2,h3⟩ hb=>⟨b1,b2,b3,e,(hb.block b1 (zVc.1 h1).1).trans h1,(hb.block b2 (zVc.1 h2).1).trans h2,(hb.block b3 (zVc.1 h3).1).trans h3⟩⟩
theorem zKh {n:Nat}:zLS 0 (-1) n fun k=>(n - k) % n:=by
 refine ⟨by decide,by decide,by decide,by decide,fun i hi=>⟨zVp _ oP, ?_⟩⟩
 have e:(0+(i:Int)* -1).tmod (n:Int)= -(i:Int):=by
  rw [show (0:Int)+(i:Int)* -1= -(i:Int) by omega,Int.neg_tmod]
  congr 1
  exact Int.tmod_eq_of_lt oP oP
 rw [e]
 by_cases h:i=0
 ·subst h
  left
  simp
 ·right
  show -(i:Int)<0/\-(i:Int)+(n:Int)=(((n - i) % n:Nat):Int)
  rw [Nat.mod_eq_of_lt (show n - i<n by omega)]
  omega
theorem zO3 {n f:Nat} (hf:f<n) (hn:n<=1000000):zLS (f:Int) 1 n fun k=>(k+f) % n:=by
 refine ⟨by decide,by decide,by omega,by omega,fun i hi=>⟨zVp _ oP, .inl ?_⟩⟩
 have e:((f:Int)+(i:Int)*1).tmod (n:Int)=(((i+f) % n:Nat):Int):=by
  rw [show (f:Int)+(i:Int)*1=((i+f:Nat):Int) by omega]
  exact zB3 _ _
 rw [e]
 exact ⟨by omega,rfl⟩
theorem zQP (ps:List V2):rgV ps (fun k=>(ps.length - k) % ps.length)=zCt ps:=rfl
theorem zQO {ps:List V2} {f:Nat} (hf:f<ps.length):rgV ps (fun k=>(k+f) % ps.length)=zEM ps f:=zRp (by simp [rgV,zFC]) fun i hi=>by
 have hi:i<ps.length:=by simpa [rgV] using hi
 rw [zR5 hf hi]
 unfold rgV
 show ((List.range ps.length).map _).getD i (0,0)=_
 rw [zVx,zVu,List.getElem?_range hi]
 rfl
theorem zJN {W:Wp} {l u v:Wq} {FF SS:Int} (hlc:l.cells=#[l]/\zV l=true) (hu:u= .int .i64 FF) (hv:v= .int .i64 SS):Calls prog 93 #[l,u,v] W (Ret W (zLs l FF SS)):=by
 refine yF [(UF.eq l).tS,(uI FF).tS,(uI SS).tS] func93 rfl kI ⟨rfl,hu,hv,trivial⟩ fun a s=> ?_
 refine zVb ?_
 refine zB 0 [] hmix s kI
  zE fun a w1 s=> ?_
 refine qD (wB [l]) rfl s kI (fun v W h=>zE6 h hlc.1 hlc.2) fun b3 a w s=> ?_
 refine qD (wB [.int .i64 FF]) rfl s kI (fun v W h=>zE6 h rfl rfl) fun b4 a w s=> ?_
 refine qD (wB [.int .i64 SS]) rfl s kI (fun v W h=>zE6 h rfl rfl) fun b5 a w s=> ?_
 refine qN (UF.eq (.nilFunc)) rfl s kI iiz fun a w s=> ?_
 refine zA rfl ?_
 refine zVb ?_
 replace s:=s.drop [6]
 refine zB 2 ((7, .Z (UF.eq (.func (.func 122) #[] #[pO b3 0,pO b4 0,pO b5 0])))::(6, .u (UF.eq (.func (.func 122) #[] #[pO b3 0,pO b4 0,pO b5 0]))):: []) hmix s kI
  (oc (zM1 (fun u v q W hb (h:(wG b3 (wB [l]).cf).p u W) (h':(wG b4 (wB [.int .i64 FF]).cf).p v W) (h'':(wG b5 (wB [.int .i64 SS]).cf).p q W)=>by rw [h.1,h'.1,h''.1];rfl))<|oc zG<|zE) fun a w2 s=> ?_
 refine zA rfl ?_
 refine zVf ?_
 obtain ⟨cs,e1,e2,e3⟩:=s.boxAt (c:=3) rfl
 obtain ⟨cs',f1,f2,f3⟩:=s.boxAt (c:=4) rfl
 obtain ⟨cs'',g1,g2,g3⟩:=s.boxAt (c:=5) rfl
 obtain rfl:cs=_:=e2
 obtain rfl:cs'=_:=f2
 obtain rfl:cs''=_:=g2
 exact StS.resN s (zVt _ _) rfl ⟨b3,b4,b5,s.val (.head _),e1,f1,g1⟩
theorem zQu {m:Nat} {W:Wp} {l:Wq} {ps:List V2} (hl:(SF.row 6 (pvs m ps)).p l W) (hn:ps.length<=1000000):Calls prog 63 #[l] W (Ret W (wE W 30 6 (pvs m (zCt ps)))):=by
 refine yF [(UF.eq l).tS] func63 rfl kI ⟨rfl,trivial⟩ fun a s=> ?_
 replace s:=s.renew [(0, .u (UF.eq l))] (fmz ⟨.inr ⟨_,rfl, .head _⟩,fnz⟩)
 refine zVb ?_
 refine zB 1 ((2, .u (UF.eq (.slice none 0 0))):: []) hmix s kI
  (oc zG<|zE) fun a w1 s=> ?_
 refine zA rfl ?_
 refine zVb ?_
 replace s:=s.drop [2]
 refine yD 4 ((3, .Z (UF.eq l))::(4, .s (zLs l 0 (-1)))::(5, .s (wE W 30 6 (pvs m (zCt ps))))::(2, .s (wE W 30 6 (pvs m (zCt ps)))):: []) hmix s kI
  (oc zC<|oc (zD0 zD zRs (fun u0 u1 u2 W hb (h0:u0=l) (h1:u1= .int .i64 0) (h2:u2= .int .i64 (-1))=>by rw [show u0=l from h0];exact zJN (zCZ hl) h1 h2))<|oc (zH zD zRt (fun u0 W hb (h0:(zLs l 0 (-1)).p u0 W)=>by obtain ⟨b1,b2,b3,e9,h1,h2,h3⟩:=h0;rw [e9];exact (zKJ (idx:=fun k=>(ps.length - k) % ps.length) (s.up hb) h1 h2 h3 hl hn zKh).mono (wD (fun v W h=>qQ (s.up hb).size v W (by rw [zQP] at h;exact h)))))<|oc zG<|zE) fun a w2 s hr=> ?_
 refine zA rfl ?_
 refine zVf ?_
 exact StS.resN s (zVt _ _) rfl (hr _ mz3)
theorem zHW {m:Nat} {W:Wp} {l u:Wq} {ps:List V2} {f:Nat} (hu:u= .int .i64 (f:Int)) (hl:(SF.row 6 (pvs m ps)).p l W) (hf:f<ps.length) (hn:ps.length<=1000000):Calls prog 65 #[u,l] W (Ret W (wE W 30 6 (pvs m (zEM ps f)))):=by
 refine yF [(uI (f:Int)).tS,(UF.eq l).tS] func65 rfl kI ⟨hu,rfl,trivial⟩ fun a s=> ?_
 replace s:=s.renew [(0, .u (uI (f:Int))),(1, .u (UF.eq l))] (fmz ⟨.inr ⟨_,rfl, .head _⟩,fmz ⟨.inr ⟨_,rfl,mz1⟩,fnz⟩⟩)
 refine zVb ?_
 refine zB 1 ((4, .u (UF.eq (.slice none 0 0))):: []) hmix s kI
  (oc zG<|zE) fun a w1 s=> ?_
 refine zA rfl ?_
 refine zVb ?_
 refine zVb ?_
 refine zB 3 ((5, .Z (UF.eq l))::(6, .Z (uI ((pvs m ps).length:Int)))::(7, .u (uB false)):: []) hmix s kI
  (oc zC<|oc (y7 (z:=6) (Cs:=pvs m ps) kI (fun v W hb h=>(yL hl h (s.up hb))) (fun _=>rfl))<|oc (z5 .i64 ((pvs m ps).length:Int) 0 false iiz iiz (beq_eq_false_iff_ne.2 (by simp only [zVn];omega)) rfl)<|zE) fun a w2 s=> ?_
 refine zA rfl ?_
 refine StS.cond s false iiz (fun e=>by cases e) (fun e=> ?_)
 refine zVd ?_
 refine zVb ?_
 replace s:=s.drop [4]
 refine yD 8 ((8, .Z (UF.eq l))::(9, .Z (uI (f:Int)))::(10, .Z (UF.eq l))::(11, .Z (uI ((pvs m ps).length:Int)))::(12, .Z (uI (f:Int)))::(13, .s (zLs l (f:Int) 1))::(14, .s (wE W 30 6 (pvs m (zEM ps f))))::(4, .s (wE W 30 6 (pvs m (zEM ps f)))):: []) hmix s kI
  (oc zC<|oc zC<|oc zC<|oc (y7 (z:=6) (Cs:=pvs m ps) kI (fun v W hb h=>(yL hl h (s.up hb))) (fun _=>rfl))<|oc (zB9 .i64 (f:Int) ((pvs m ps).length:Int) (f:Int) iiz iiz (by simp only [zVn];omega) (by simp only [zVn];rw [zB3,Nat.mod_eq_of_lt hf]))<|oc (zD0 zD zRs (fun u0 u1 u2 W hb (h0:u0=l) (h1:u1= .int .i64 (f:Int)) (h2:u2= .int .i64 1)=>by rw [show u0=l from h0];exact zJN (zCZ hl) h1 h2))<|oc (zH zD zRt (fun u0 W hb (h0:(zLs l (f:Int) 1).p u0 W)=>by obtain ⟨b1,b2,b3,e9,h1,h2,h3⟩:=h0;rw [e9];exact (zKJ (idx:=fun k=>(k+f) % ps.length) (s.up hb) h1 h2 h3 hl hn (zO3 hf hn)).mono (wD (fun v W h=>qQ (s.up hb).size v W (by rw [zQO hf] at h;exact h)))))<|oc zG<|zE) fun a w3 s hr=> ?_
 refine zA rfl ?_
 refine zVf ?_
 exact StS.resN s (zVt _ _) rfl (hr _ mz7)
end Go.Proofs.Wd

namespace Go.Proofs.Wd
open Tryz
set_option maxRecDepth 100000
set_option maxHeartbeats 1000000
open Go.RowKit Lb
theorem zM5 {ps:List V2} (h:arE ps<0):zEM (zCt ps) (fK (zCt ps) (zCt ps).length)=zA0 ps:=by
 unfold zA0 zNG
 rw [if_pos h]
theorem zM4 {ps:List V2} (h: ¬arE ps<0):zEM ps (fK ps ps.length)=zA0 ps:=by
 unfold zA0 zNG
 rw [if_neg h]
theorem zJS {W:Wp} {l:Wq} {ps:List V2} (hl:(SF.row 6 (pvs 1 ps)).p l W) (hp0:0<ps.length) (hn:ps.length<=12) (hT:Tab W):Calls prog 34 #[l] W (Ret W (wE W 30 6 (pns (zA0 ps)))):=by
 refine yF [(UF.eq l).tS] func34 rfl kI ⟨rfl,trivial⟩ fun a s=> ?_
 replace s:=s.renew [(0, .u (UF.eq l))] (fmz ⟨.inr ⟨_,rfl, .head _⟩,fnz⟩)
 refine zVb ?_
 refine zB 1 ((2, .u (UF.eq (.slice none 0 0))):: []) hmix s kI
  (oc zG<|zE) fun a w1 s=> ?_
 refine zA rfl ?_
 refine zVb ?_
 refine zVb ?_
 refine zB 3 ((3, .s (UF.eq l).tS)::(4, .s (UF.eq (.int .i64 (arE ps).num.sign)).tS)::(5, .u (uB (decide ((arE ps).num.sign<0)))):: []) hmix s kI
  (oc zC<|oc (zH zD zS0 (fun u0 X hb (h0:u0=l)=>zRd (by rw [show u0=l from h0];exact (SF.row 6 (pvs 1 ps)).st _ _ _ hl (s.up hb)) hn (hT.below (s.up hb))))<|oc (z5 .i64 ((arE ps).num.sign) 0 (decide ((arE ps).num.sign<0)) iiz iiz rfl rfl)<|zE) fun a w2 s=> ?_
 refine zA rfl ?_
 refine StS.cond s (decide ((arE ps).num.sign<0)) iiz (fun e=> ?_) (fun e=> ?_)
 ·have hneg:=zHn.1 (zVl e)
  refine zHr 2 ((6, .s (UF.eq l).tS)::(7, .s (wE W 30 6 (pvs 1 (zCt ps)))):: []) s kI
   (oc zC<|oc (zH zD zSZ (fun u0 X hb (h0:u0=l)=>(zQu (m:=1) (by rw [show u0=l from h0];exact (SF.row 6 (pvs 1 ps)).st _ _ _ hl (s.up hb)) oP).mono (wD (qQ (s.up hb).size))))<|zE) fun a w3 s hr=> ?_
  obtain ⟨v7,e7⟩: ∃v,a.tmps.getD 7 undef=v:=⟨_,rfl⟩
  have hv7:(SF.row 6 (pvs 1 (zCt ps))).p v7 w3:=e7▸jR _ _ (hr (_,_) mz1)
  replace s:=s.learn 7 v7 e7
  have hb3:=s.below
  have hT0:=hT
  have hT:=hT0.below hb3
  replace s:=s.drop [0]
  replace s:=s.reb rfl [(7, .u (UF.eq v7)),(2, .u (UF.eq (.slice none 0 0)))] (fmz ⟨.inl (.head _),fmz ⟨.inl mz2,fnz⟩⟩)
  refine qN (UF.eq v7) rfl s kI iiz fun a w s=> ?_
  refine zA rfl ?_
  have hq0:0<(zCt ps).length:=by rw [zEn];exact hp0
  have hqn:(zCt ps).length<=12:=by rw [zEn];exact hn
  refine zVb ?_
  replace s:=s.drop [2]
  refine yD 6 ((8, .s (UF.eq v7).tS)::(9, .s (uI ((fK (zCt ps) (zCt ps).length:Nat):Int)).tS)::(10, .s (UF.eq v7).tS)::(11, .s (SF.row 6 (pvs 1 (zEM (zCt ps) (fK (zCt ps) (zCt ps).length)))))::(12, .s (wE w3 30 6 (pns (zEM (zCt ps) (fK (zCt ps) (zCt ps).length)))))::(2, .s (wE w3 30 6 (pns (zEM (zCt ps) (fK (zCt ps) (zCt ps).length))))):: []) hmix s kI
   (oc zC<|oc (zH zD zRB (fun u0 X hb (h0:u0=v7)=>(zH1 (m:=1) (ps:=(zCt ps)) (yL hv7 h0 (s.up hb)) dB dB oP (hT.below (s.up hb))).mono (wD (fun v W h=>by rw [zDG hq0] at h;exact h))))<|oc zC<|oc (zM zD zRC (fun u0 u1 X hb h0 (h1:u1=v7)=>(zHW (m:=1) (ps:=(zCt ps)) h0 (yL hv7 h1 (s.up hb)) (zNo _ hq0) oP).mono (wD jR)))<|oc (zH zD zRD (fun u0 X hb (h0:(SF.row 6 (pvs 1 (zEM (zCt ps) (fK (zCt ps) (zCt ps).length)))).p u0 X)=>(zJH (m:=1) h0 dB dB (by rw [zFC];omega) (hT.below (s.up hb))).mono (wD (qQ (s.up hb).size))))<|oc zG<|zE) fun a w9 s hr=> ?_
  refine zA rfl ?_
  refine zVf ?_
  rw [zM5 hneg] at hr
  have h9:=hr (_,_) mz5
  exact StS.resN s hb3 rfl (zAs.mono h9 hb3.size)
 ·have hpos: ¬arE ps<0:=fun h=>absurd (zHn.2 h) (zVj e)
  refine zVd ?_
  have hq0:=hp0
  refine zVb ?_
  replace s:=s.drop [2]
  refine yD 6 ((8, .s (UF.eq l).tS)::(9, .s (uI ((fK ps ps.length:Nat):Int)).tS)::(10, .s (UF.eq l).tS)::(11, .s (SF.row 6 (pvs 1 (zEM ps (fK ps ps.length)))))::(12, .s (wE W 30 6 (pns (zEM ps (fK ps ps.length)))))::(2, .s (wE W 30 6 (pns (zEM ps (fK ps ps.length))))):: []) hmix s kI
   (oc zC<|oc (zH zD zRB (fun u0 X hb (h0:u0=l)=>(zH1 (m:=1) (ps:=ps) (yL hl h0 (s.up hb)) dB dB oP (hT.below (s.up hb))).mono (wD (fun v W h=>by rw [zDG hq0] at h;exact h))))<|oc zC<|oc (zM zD zRC (fun u0 u1 X hb h0 (h1:u1=l)=>(zHW (m:=1) (ps:=ps) h0 (yL hl h1 (s.up hb)) (zNo _ hq0) oP).mono (wD jR)))<|oc (zH zD zRD (fun u0 X hb (h0:(SF.row 6 (pvs 1 (zEM ps (fK ps ps.length)))).p u0 X)=>(zJH (m:=1) h0 dB dB (by rw [zFC];omega) (hT.below (s.up hb))).mono (wD (qQ (s.up hb).size))))<|oc zG<|zE) fun a w9 s hr=> ?_
  refine zA rfl ?_
  refine zVf ?_
  rw [zM4 hpos] at hr
  have h9:=hr (_,_) mz5
  exact StS.resN s (zVt _ _) rfl h9
theorem zE9 {W:Wp} {l:Wq} (hlc:l.cells=#[l]/\zV l=true):Calls prog 35 #[l] W (Ret W (zLt W 67 22 (wB [l]))):=by
 refine yF [(UF.eq l).tS] func35 rfl kI ⟨rfl,trivial⟩ fun a s=> ?_
 refine zVb ?_
 refine zB 0 [] hmix s kI
  zE fun a w1 s=> ?_
 refine qD (wB [l]) rfl s kI (fun v W h=>zE6 h hlc.1 hlc.2) fun b1 a w s=> ?_
 refine qN (UF.eq (.nilFunc)) rfl s kI iiz fun a w s=> ?_
 refine zA rfl ?_
 refine zVb ?_
 replace s:=s.drop [2]
 refine zB 2 ((3, .Z (UF.eq (.func (.func 67) #[] #[pO b1 0])))::(2, .u (UF.eq (.func (.func 67) #[] #[pO b1 0]))):: []) hmix s kI
  (oc (zIw (fun u W hb (h:(wG b1 (wB [l]).cf).p u W)=>by rw [h.1];rfl))<|oc zG<|zE) fun a w2 s=> ?_
 refine zA rfl ?_
 refine zVf ?_
 obtain ⟨cs,e1,e2,e3⟩:=s.boxAt (c:=1) rfl
 exact StS.resN s (zVt _ _) rfl ⟨b1,cs,s.val (.head _),s.inB_new ⟨_, .head _,rfl,rfl⟩,e1,e2,e3⟩
end Go.Proofs.Wd

namespace Go.Proofs.Wd
open Tryz
set_option maxRecDepth 100000
set_option maxHeartbeats 1000000
open Go.RowKit Lb
def isK (ps:List V2) (i k:Nat):Bool:=(zBo (zAP ps i)==1)&&(List.range k).all (zQm ps i)
theorem zSE (ps:List V2) (i:Nat):isK ps i 0=(zBo (zAP ps i)==1):=by unfold isK;simp
theorem zFW (ps:List V2) (i k:Nat):isK ps i (k+1)=(isK ps i k&&zQm ps i k):=by
 unfold isK
 rw [zVH,List.all_append,Bool.and_assoc]
 simp
theorem zLg (ps:List V2) (i:Nat):isK ps i ps.length=zNt ps i:=rfl
theorem zRj {ps:List V2} {i k:Nat} (h:isK ps i k=false) (hk:k<=ps.length):zNt ps i=false:=by
 rw [<-zLg]
 obtain ⟨d,e⟩: ∃d,ps.length=k+d:=⟨ps.length - k,by omega⟩
 rw [e]
 clear e hk
 induction d with
 |zero=>exact h
 |succ d ih=>rw [show k+(d+1)=k+d+1 by omega,zFW,ih];rfl
theorem zDB (a b:Nat):((a:Int)==(b:Int))=decide (a=b):=by
 by_cases h:a=b
 ·subst h;simp
 ·have:(a:Int)≠(b:Int):=by omega
  rw [zVw h]
  exact beq_eq_false_iff_ne.2 this
theorem zNi {ps:List V2} {i k:Nat} (e:((((k:Int)==(i:Int))||((k:Int)==((zBT ps i:Nat):Int)))||((k:Int)==((zDP ps i:Nat):Int)))=true):isK ps i (k+1)=isK ps i k:=by
 rw [zDB,zDB,zDB] at e
 rw [zFW]
 have:zQm ps i k=true:=by unfold zQm;rw [e];rfl
 rw [this,Bool.and_true]
theorem zNj {ps:List V2} {i k:Nat} (h:(!(isK ps i k))=false) (e:((((k:Int)==(i:Int))||((k:Int)==((zBT ps i:Nat):Int)))||((k:Int)==((zDP ps i:Nat):Int)))=false):isK ps i (k+1)=decide (zCQ (zAP ps i) (at_ ps k)<0):=by
 rw [zDB,zDB,zDB] at e
 rw [zFW]
 have h':isK ps i k=true:=by simpa using h
 rw [h',Bool.true_and]
 unfold zQm
 rw [e,Bool.false_or]
theorem zOp {m:Nat} {W:Wp} {l u:Wq} {ps:List V2} {i:Nat} (hl:(SF.row 6 (pvs m ps)).p l W) (hu:u= .int .i64 (i:Int)) (hi:i<ps.length) (h3:3<=ps.length) (hn:ps.length<=1000000) (hm:m<=159) (hm0:0<m) (hT:Tab W):Calls prog 33 #[l,u] W (Ret W (fB (zNt ps i)).tS):=by
 have hb1:zBT ps i<ps.length:=zVp _ oP
 have hb2:zDP ps i<ps.length:=zVp _ oP
 refine yF [(UF.eq l).tS,(uI (i:Int)).tS] func33 rfl kI ⟨rfl,hu,trivial⟩ fun a s=> ?_
 replace s:=s.renew [(0, .u (UF.eq l)),(1, .u (uI (i:Int)))] (fmz ⟨.inr ⟨_,rfl, .head _⟩,fmz ⟨.inr ⟨_,rfl,mz1⟩,fnz⟩⟩)
 refine zVb ?_
 refine zB 1 ((4, .u (uB false)):: []) hmix s kI
  (oc zG<|zE) fun a w1 s=> ?_
 refine zA rfl ?_
 refine (wpIn_wide (n:=0)).2 (wp_scope_straight ((wpIn_wide (n:=0)).1 ?_))
 refine zVb ?_
 refine zVb ?_
 refine zB 13 ((11, .Z (UF.eq l))::(12, .Z (uI ((pvs m ps).length:Int)))::(13, .Z (uB false))::(14, .Z (uB false))::(15, .Z (uI (i:Int)))::(16, .Z (uB false))::(17, .Z (uB false))::(18, .Z (uB false))::(19, .Z (uI (i:Int)))::(20, .Z (UF.eq l))::(21, .Z (uI ((pvs m ps).length:Int)))::(22, .Z (uB false))::(23, .u (uB false)):: []) hmix s kI
  (oc zC<|oc (y7 (z:=6) (Cs:=pvs m ps) kI (fun v W hb h=>(yL hl h (s.up hb))) (fun _=>rfl))<|oc (z5 .i64 ((pvs m ps).length:Int) 3 false iiz iiz (zVw (by simp only [zVn];omega)) rfl)<|oc zC<|oc (zF 14 false kI iiz (fun _=>zC) arf)<|oc (zF 14 false kI iiz (fun _=>z5 .i64 (i:Int) 0 false iiz iiz (zVw oP) rfl) arf)<|oc (qX false iiz (fun e=>by cases e) fO)<|oc zC<|oc (zF 18 false kI iiz (fun _=>zC) arf)<|oc (zF 18 false kI iiz (fun _=>zC) arf)<|oc (zF 18 false kI iiz (fun _=>y7 (z:=6) (Cs:=pvs m ps) kI (fun v W hb h=>(yL hl h (s.up hb))) (fun _=>rfl)) arf)<|oc (zF 18 false kI iiz (fun _=>z5 .i64 (i:Int) ((pvs m ps).length:Int) false iiz iiz (zVw (by simp only [zVn];omega)) rfl) arf)<|oc (qX false iiz (fun e=>by cases e) fO)<|zE) fun a w2 s=> ?_
 refine zA rfl ?_
 refine StS.cond s false iiz (fun e=>by cases e) (fun e=> ?_)
 refine zVd ?_
 refine zVb ?_
 refine zB 15 ((24, .Z (uI (i:Int)))::(25, .Z (UF.eq l))::(26, .Z (uI ((pvs m ps).length:Int)))::(27, .Z (uI ((i+ps.length:Nat):Int)))::(28, .Z (uI ((i+ps.length - 1:Nat):Int)))::(29, .Z (UF.eq l))::(30, .Z (uI ((pvs m ps).length:Int)))::(31, .Z (uI ((zBT ps i:Nat):Int)))::(32, .Z (uI (i:Int)))::(33, .Z (uI ((i+1:Nat):Int)))::(34, .Z (UF.eq l))::(35, .Z (uI ((pvs m ps).length:Int)))::(36, .Z (uI ((zDP ps i:Nat):Int)))::(5, .u (uI ((zBT ps i:Nat):Int)))::(6, .u (uI ((zDP ps i:Nat):Int))):: []) hmix s kI
  (oc zC<|oc zC<|oc (y7 (z:=6) (Cs:=pvs m ps) kI (fun v W hb h=>(yL hl h (s.up hb))) (fun _=>rfl))<|oc (yX .i64 (i:Int) ((pvs m ps).length:Int) ((i+ps.length:Nat):Int) iiz iiz (by simp only [zVn];exact wrap64 _ _ oP oP))<|oc (zKN .i64 ((i+ps.length:Nat):Int) 1 ((i+ps.length - 1:Nat):Int) iiz iiz (wrap64 _ _ oP oP))<|oc zC<|oc (y7 (z:=6) (Cs:=pvs m ps) kI (fun v W hb h=>(yL hl h (s.up hb))) (fun _=>rfl))<|oc (zB9 .i64 ((i+ps.length - 1:Nat):Int) ((pvs m ps).length:Int) ((zBT ps i:Nat):Int) iiz iiz (by simp only [zVn];omega) (by simp only [zVn];exact zB3 _ _))<|oc zC<|oc (yX .i64 (i:Int) 1 ((i+1:Nat):Int) iiz iiz (wrap64 _ _ oP oP))<|oc zC<|oc (y7 (z:=6) (Cs:=pvs m ps) kI (fun v W hb h=>(yL hl h (s.up hb))) (fun _=>rfl))<|oc (zB9 .i64 ((i+1:Nat):Int) ((pvs m ps).length:Int) ((zDP ps i:Nat):Int) iiz iiz (by simp only [zVn];omega) (by simp only [zVn];exact zB3 _ _))<|oc zG<|oc zG<|zE) fun a w3 s=> ?_
 refine zA rfl ?_
 refine zVb ?_
 have so:=s.old;have sg:=s.gr
 refine zBi (fun i=> [].contains i) [⟨13,7,38, [.bool false, .slice none 0 0, .slice none 0 0, .bool false, .slice none 0 0, .slice none 0 0, .bool false, .slice none 0 0, .slice none 0 0, .bool false, .slice none 0 0, .slice none 0 0, .bool false, .slice none 0 0, .slice none 0 0, .bool false, .slice none 0 0, .slice none 0 0],wI w3 38 (CU.len 18)⟩] 14 ((37, .Z (UF.eq l))::(38, .Z (uI ((zBT ps i:Nat):Int)))::(39, .Y (fPV m (at_ ps (zBT ps i))))::(40, .Z (fPV m (at_ ps (zBT ps i))))::(41, .Z (UF.eq l))::(42, .Z (uI ((i:Nat):Int)))::(43, .Y (fPV m (at_ ps i)))::(44, .Z (fPV m (at_ ps i)))::(45, .Z (UF.eq l))::(46, .Z (uI ((zDP ps i:Nat):Int)))::(47, .Y (fPV m (at_ ps (zDP ps i))))::(48, .Z (fPV m (at_ ps (zDP ps i))))::(49, .u (fTR m (zAP ps i)))::(7, .s (wI w3 38 (CU.len 18))):: []) hmix s (fmz ⟨⟨by show 13<14;decide,zRb,⟨_,_,_,rfl⟩,by kernel_rfl,zB8 (fun _=>rfl) rfl⟩,fnz⟩) kI
  (oc zC<|oc zC<|oc (zZ (z:=6) (Cs:=pvs m ps) (i:=(zBT ps i)) (C:=CU.agg (fPV m (at_ ps (zBT ps i)))) kI (zAV hb1) (fun v W hb h=>(yL hl h (s.up hb))) iiz)<|oc (zR (f:=fPV m (at_ ps (zBT ps i))) 6 kI (hz:=yP _ _))<|oc zC<|oc zC<|oc (zZ (z:=6) (Cs:=pvs m ps) (i:=i) (C:=CU.agg (fPV m (at_ ps i))) kI (zAV hi) (fun v W hb h=>(yL hl h (s.up hb))) iiz)<|oc (zR (f:=fPV m (at_ ps i)) 6 kI (hz:=yP _ _))<|oc zC<|oc zC<|oc (zZ (z:=6) (Cs:=pvs m ps) (i:=(zDP ps i)) (C:=CU.agg (fPV m (at_ ps (zDP ps i)))) kI (zAV hb2) (fun v W hb h=>(yL hl h (s.up hb))) iiz)<|oc (zR (f:=fPV m (at_ ps (zDP ps i))) 6 kI (hz:=yP _ _))<|oc (zAJ (fun u v q W (hu:(fPV m (at_ ps (zBT ps i))).p u W) (hv:(fPV m (at_ ps i)).p v W) (hq:(fPV m (at_ ps (zDP ps i))).p q W)=>zTf (t:=(zAP ps i)) hu hv hq))<|oc (zC7 (cs:= [.bool false, .slice none 0 0, .slice none 0 0, .bool false, .slice none 0 0, .slice none 0 0, .bool false, .slice none 0 0, .slice none 0 0, .bool false, .slice none 0 0, .slice none 0 0, .bool false, .slice none 0 0, .slice none 0 0, .bool false, .slice none 0 0, .slice none 0 0]) kI (zB8 (fun _=>rfl) rfl))<|zE) fun Q' hQ a w4 s hr hd=> ?_
 obtain ⟨b7,hB7,e7,s⟩:=s.adoptA false 7 (hr (_,_) zRb) sg (fun y hy=> .inl (so y hy))
 refine zU (CU.agg (fTR m (zAP ps i))) ((fTR m (zAP ps i)).tS) rfl s kI rfl rfl rfl iiz iiz zHX fun a w s=> ?_
 refine zA rfl (hQ _ _ ?_)
 refine zVb ?_
 refine zB 4 ((50, .Z (fTR m (zAP ps i)))::(51, .Z (uI (zBo (zAP ps i))))::(52, .Z (uB (isK ps i 0)))::(8, .u (uB (isK ps i 0))):: []) hmix s kI
  (oc (zR (f:=fTR m (zAP ps i)) 18 kI (hz:=zHZ _ _))<|oc (zH zD zP0 (fun u0 W hb (h0:(fTR m (zAP ps i)).p u0 W)=>zF5 h0 hm hm0 (hT.below (s.up hb))))<|oc (z5 .i64 (zBo (zAP ps i)) 1 (isK ps i 0) iiz iiz (by rw [zSE]) rfl)<|oc zG<|zE) fun a w5 s=> ?_
 refine zA rfl ?_
 refine zVb ?_
 refine wpIn_label ?_
 refine zVb ?_
 refine zVb ?_
 refine zB 3 ((53, .u (UF.eq l))::(54, .u (uI ((pvs m ps).length:Int)))::(55, .u (uI 0)):: []) hmix s kI
  (oc zC<|oc (y7 (z:=6) (Cs:=pvs m ps) kI (fun v W hb h=>(yL hl h (s.up hb))) (fun _=>rfl))<|oc zC<|zE) fun a w6 s=> ?_
 refine zA rfl ?_
 refine zVe ?_
 refine zBh (fun k=>k<=ps.length) (fun k=> [(0, .u (UF.eq l)),(1, .u (uI (i:Int))),(5, .u (uI ((zBT ps i:Nat):Int))),(6, .u (uI ((zDP ps i:Nat):Int))),(53, .u (UF.eq l)),(54, .u (uI ((pvs m ps).length:Int))),(8, .u (uB (isK ps i k))),(55, .u (uI ((k:Nat):Int)))]) (fun k=>ps.length - k) (0:Nat) (zVm _) (s.keepK _ (fmz ⟨mz9,fmz ⟨zJv,fmz ⟨mz5,fmz ⟨mz6,fmz ⟨.head _,fmz ⟨mz1,fmz ⟨mz3,fmz ⟨mz2,fnz⟩⟩⟩⟩⟩⟩⟩⟩)) fun k a w hx s=> ?_
 have hlz:(pvs m ps).length=ps.length:=by simp
 refine zVb ?_
 refine zB 1 ((56, .u (uB (decide ((k:Int)<((pvs m ps).length:Int))))):: []) hmix s kI
  (oc (z5 .i64 (k:Int) ((pvs m ps).length:Int) (decide ((k:Int)<((pvs m ps).length:Int))) iiz iiz rfl rfl)<|zE) fun a w7 s=> ?_
 refine zA rfl ?_
 refine zVb ?_
 refine StS.cond s (decide ((k:Int)<((pvs m ps).length:Int))) iiz (fun e=> ?_) (fun e=> ?_)
 ·have hk:k<ps.length:=by have:=zVl e;rw [hlz] at this;omega
  refine zVd ?_
  refine zVb ?_
  refine zVe ?_
  refine zVb ?_
  refine zB 3 ((57, .u (uI (k:Int)))::(58, .Y (fPV m (at_ ps k)))::(59, .u (fPV m (at_ ps k))):: []) hmix s kI
   (oc zC<|oc (zZ (z:=6) (Cs:=pvs m ps) (i:=k) (C:=CU.agg (fPV m (at_ ps k))) kI (zAV hk) (fun v W hb h=>(yL hl h (s.up hb))) iiz)<|oc (zR (f:=fPV m (at_ ps k)) 6 kI (hz:=yP _ _))<|zE) fun a w8 s=> ?_
  refine yE (CU.len 6) (cs:=zP6) kI rfl s kI (fun W=>rfl) rfl fun b10 a w s=> ?_
  refine qN (uI (k:Int)) rfl s kI iiz fun a w s=> ?_
  refine zU (CU.agg (fPV m (at_ ps k))) ((fPV m (at_ ps k)).tS) rfl s kI rfl rfl rfl iiz iiz jX fun a w s=> ?_
  refine zA rfl ?_
  refine zVb ?_
  refine zVe ?_
  refine zVb ?_
  refine zB 3 ((61, .Z (uB (isK ps i k)))::(62, .Z (uB (!(isK ps i k))))::(60, .u (uB (!(isK ps i k)))):: []) hmix s kI
   (oc zC<|oc (zEx (isK ps i k) iiz (fun _=>rfl))<|oc zG<|zE) fun a w9 s=> ?_
  refine zA rfl ?_
  refine StS.cond s (!(isK ps i k)) iiz (fun e=> ?_) (fun e=> ?_)
  ·have eN:isK ps i k=false:=by simpa using e
   refine zVk ?_
   refine zVb ?_
   refine zB 2 ((82, .Z (uB (isK ps i k)))::(4, .u (uB (isK ps i k))):: []) hmix s kI
    (oc zC<|oc zG<|zE) fun a w10 s=> ?_
   refine zA rfl ?_
   refine zVf ?_
   exact wF s (t:=4) rfl (fun v W h=>by rw [zRj eN oP, <-eN];exact h)
  ·have e60:=e
   refine zVb ?_
   refine zB 14 ((64, .Z (uI (k:Int)))::(65, .Z (uI (i:Int)))::(66, .Z (uB ((k:Int)==(i:Int))))::(67, .Z (uB ((k:Int)==(i:Int))))::(68, .s (SF.imp (((k:Int)==(i:Int))=false) ((uI (k:Int)).tS)))::(69, .s (SF.imp (((k:Int)==(i:Int))=false) ((uI ((zBT ps i:Nat):Int)).tS)))::(70, .s (SF.imp (((k:Int)==(i:Int))=false) ((uB ((k:Int)==((zBT ps i:Nat):Int))).tS)))::(71, .Z (uB (((k:Int)==(i:Int))||((k:Int)==((zBT ps i:Nat):Int)))))::(72, .Z (uB (((k:Int)==(i:Int))||((k:Int)==((zBT ps i:Nat):Int)))))::(73, .s (SF.imp ((((k:Int)==(i:Int))||((k:Int)==((zBT ps i:Nat):Int)))=false) ((uI (k:Int)).tS)))::(74, .s (SF.imp ((((k:Int)==(i:Int))||((k:Int)==((zBT ps i:Nat):Int)))=false) ((uI ((zDP ps i:Nat):Int)).tS)))::(75, .s (SF.imp ((((k:Int)==(i:Int))||((k:Int)==((zBT ps i:Nat):Int)))=false) ((uB ((k:Int)==((zDP ps i:Nat):Int))).tS)))::(76, .Z (uB ((((k:Int)==(i:Int))||((k:Int)==((zBT ps i:Nat):Int)))||((k:Int)==((zDP ps i:Nat):Int)))))::(63, .u (uB ((((k:Int)==(i:Int))||((k:Int)==((zBT ps i:Nat):Int)))||((k:Int)==((zDP ps i:Nat):Int))))):: []) hmix s kI
    (oc zC<|oc zC<|oc (z5 .i64 (k:Int) (i:Int) ((k:Int)==(i:Int)) iiz iiz rfl rfl)<|oc zC<|oc (zF 67 ((k:Int)==(i:Int)) kI iiz (fun e=>zDf [] ((uI (k:Int)).tS) fnz fP kI zC) fN)<|oc (zF 67 ((k:Int)==(i:Int)) kI iiz (fun e=>zDf [] ((uI ((zBT ps i:Nat):Int)).tS) fnz fP kI zC) fN)<|oc (zF 67 ((k:Int)==(i:Int)) kI iiz (fun e=>zDf [(68,(uI (k:Int)).tS),(69,(uI ((zBT ps i:Nat):Int)).tS)] ((uB ((k:Int)==((zBT ps i:Nat):Int))).tS) (fmz ⟨fun v W h=>zBR (c:=((k:Int)==(i:Int))=false) (f:=(uI (k:Int)).tS) e h,fmz ⟨fun v W h=>zBR (c:=((k:Int)==(i:Int))=false) (f:=(uI ((zBT ps i:Nat):Int)).tS) e h,fnz⟩⟩) fP kI (z5 .i64 (k:Int) ((zBT ps i:Nat):Int) ((k:Int)==((zBT ps i:Nat):Int)) iiz iiz rfl rfl)) fN)<|oc (qX ((k:Int)==(i:Int)) iiz (fun e v W h=>zKI h e) (fun e v W h=>zIt (zBR e h) e))<|oc zC<|oc (zF 72 (((k:Int)==(i:Int))||((k:Int)==((zBT ps i:Nat):Int))) kI iiz (fun e=>zDf [] ((uI (k:Int)).tS) fnz fP kI zC) fN)<|oc (zF 72 (((k:Int)==(i:Int))||((k:Int)==((zBT ps i:Nat):Int))) kI iiz (fun e=>zDf [] ((uI ((zDP ps i:Nat):Int)).tS) fnz fP kI zC) fN)<|oc (zF 72 (((k:Int)==(i:Int))||((k:Int)==((zBT ps i:Nat):Int))) kI iiz (fun e=>zDf [(73,(uI (k:Int)).tS),(74,(uI ((zDP ps i:Nat):Int)).tS)] ((uB ((k:Int)==((zDP ps i:Nat):Int))).tS) (fmz ⟨fun v W h=>zBR (c:=(((k:Int)==(i:Int))||((k:Int)==((zBT ps i:Nat):Int)))=false) (f:=(uI (k:Int)).tS) e h,fmz ⟨fun v W h=>zBR (c:=(((k:Int)==(i:Int))||((k:Int)==((zBT ps i:Nat):Int)))=false) (f:=(uI ((zDP ps i:Nat):Int)).tS) e h,fnz⟩⟩) fP kI (z5 .i64 (k:Int) ((zDP ps i:Nat):Int) ((k:Int)==((zDP ps i:Nat):Int)) iiz iiz rfl rfl)) fN)<|oc (qX (((k:Int)==(i:Int))||((k:Int)==((zBT ps i:Nat):Int))) iiz (fun e v W h=>zKI h e) (fun e v W h=>zIt (zBR e h) e))<|oc zG<|zE) fun a w11 s=> ?_
   refine zA rfl ?_
   refine StS.cond s ((((k:Int)==(i:Int))||((k:Int)==((zBT ps i:Nat):Int)))||((k:Int)==((zDP ps i:Nat):Int))) iiz (fun e=> ?_) (fun e=> ?_)
   ·rw [<-zNi e] at s
    refine zVk ?_
    refine yJ 1 ((81, .u (uI ((k+1:Nat):Int))):: []) s kI
     (oc (yX .i64 (k:Int) 1 ((k+1:Nat):Int) iiz iiz (wrap64 _ _ oP oP))<|zE) fun a w12 s=> ?_
    replace s:=s.drop [55]
    refine zDp (uI ((k+1:Nat):Int)) rfl s kI zC kI fun a w s=> ?_
    refine zA rfl ?_
    replace s:=s.popB
    exact ⟨k+1,hk,(by show ps.length - (k+1)<ps.length - k;omega),s.keepK _ (fmz ⟨mz8,fmz ⟨mz9,fmz ⟨zJv,fmz ⟨zRc,fmz ⟨zSg,fmz ⟨zRb,fmz ⟨zTD,fmz ⟨.head _,fnz⟩⟩⟩⟩⟩⟩⟩⟩)⟩
   ·have e63:=e
    refine zVd ?_
    replace s:=s.drop [8]
    refine zB 5 ((77, .Z (fTR m (zAP ps i)))::(78, .Z (fPV m (at_ ps k)))::(79, .Z (uI (zCQ (zAP ps i) (at_ ps k))))::(80, .Z (uB (decide ((zCQ (zAP ps i) (at_ ps k))<0))))::(8, .u (uB (isK ps i (k+1)))):: []) hmix s kI
     (oc (zR (f:=fTR m (zAP ps i)) 18 kI (hz:=zHZ _ _))<|oc (zR (f:=fPV m (at_ ps k)) 6 kI (hz:=yP _ _))<|oc (zM zD zLw (fun u0 u1 W hb (h0:(fTR m (zAP ps i)).p u0 W) (h1:(fPV m (at_ ps k)).p u1 W)=>zGY h0 h1 hm hm0 (hT.below (s.up hb))))<|oc (z5 .i64 (zCQ (zAP ps i) (at_ ps k)) 0 (decide ((zCQ (zAP ps i) (at_ ps k))<0)) iiz iiz rfl rfl)<|oc (zG (fun v W _ h=>by rw [zNj e60 e63];exact h))<|zE) fun a w13 s=> ?_
    refine zA rfl ?_
    refine yJ 1 ((81, .u (uI ((k+1:Nat):Int))):: []) s kI
     (oc (yX .i64 (k:Int) 1 ((k+1:Nat):Int) iiz iiz (wrap64 _ _ oP oP))<|zE) fun a w14 s=> ?_
    replace s:=s.drop [55]
    refine zDp (uI ((k+1:Nat):Int)) rfl s kI zC kI fun a w s=> ?_
    refine zA rfl ?_
    replace s:=s.popB
    exact ⟨k+1,hk,(by show ps.length - (k+1)<ps.length - k;omega),s.keepK _ (fmz ⟨mz9,fmz ⟨zJv,fmz ⟨zRc,fmz ⟨zSg,fmz ⟨zRb,fmz ⟨zTD,fmz ⟨mz2,fmz ⟨.head _,fnz⟩⟩⟩⟩⟩⟩⟩⟩)⟩
 ·have hkN:k=ps.length:=by have h7:=zVj e;rw [hlz] at h7;omega
  refine zVk ?_
  refine zVb ?_
  refine zB 2 ((82, .Z (uB (isK ps i k)))::(4, .u (uB (isK ps i k))):: []) hmix s kI
   (oc zC<|oc zG<|zE) fun a w15 s=> ?_
  refine zA rfl ?_
  refine zVf ?_
  exact wF s (t:=4) rfl (fun v W h=>by rw [<-zLg, <-hkN];exact h)
end Go.Proofs.Wd

namespace Go.Proofs.Wd
open Tryz
set_option maxRecDepth 100000
set_option maxHeartbeats 1000000
open Go.RowKit Lb
theorem zNP {t:V6} {i:Nat} (hi:i<3) (cs:List Wq) (W:Wp) (h:(CU.agg (fTN t)).p cs W):6*i+6<=cs.length/\(fPN (cor t i)).p (.agg ((cs.drop (6*i)).take 6).toArray) W:=by
 match i,hi with
 |0,_=>exact zQy cs W h
 |1,_=>exact zQx cs W h
 |2,_=>exact zOO cs W h
theorem zON (ts:List V6):(tns ts).length=ts.length:=by simp
theorem zEZ {W:Wp} {l l':Wq} {ts:List V6} (hl:(SF.row 18 (tns ts)).p l W) (hl2:(SF.row 18 (tns ts)).p l' W) (hn:ts.length<=1000000):Calls prog 19 #[l,l'] W (Ret W (fB true).tS):=by
 refine yF [(UF.eq l).tS,(UF.eq l').tS] func19 rfl kI ⟨rfl,rfl,trivial⟩ fun a s=> ?_
 replace s:=s.renew [(0, .u (UF.eq l)),(1, .u (UF.eq l'))] (fmz ⟨.inr ⟨_,rfl, .head _⟩,fmz ⟨.inr ⟨_,rfl,mz1⟩,fnz⟩⟩)
 refine zVb ?_
 refine zB 1 ((4, .u (uB false)):: []) hmix s kI
  (oc zG<|zE) fun a w1 s=> ?_
 refine zA rfl ?_
 refine zVb ?_
 refine zVb ?_
 refine zB 5 ((7, .Z (UF.eq l))::(8, .Z (uI ((tns ts).length:Int)))::(9, .Z (UF.eq l'))::(10, .Z (uI ((tns ts).length:Int)))::(11, .u (uB false)):: []) hmix s kI
  (oc zC<|oc (y7 (z:=18) (Cs:=tns ts) kI (fun v W hb h=>(yL hl h (s.up hb))) (fun _=>rfl))<|oc zC<|oc (y7 (z:=18) (Cs:=tns ts) kI (fun v W hb h=>(yL hl2 h (s.up hb))) (fun _=>rfl))<|oc (z5 .i64 ((tns ts).length:Int) ((tns ts).length:Int) false iiz iiz fQ rfl)<|zE) fun a w2 s=> ?_
 refine zA rfl ?_
 refine StS.cond s false iiz (fun e=>by cases e) (fun e=> ?_)
 refine zVd ?_
 refine zVb ?_
 refine zVb ?_
 refine zB 1 ((5, .u (uI 0)):: []) hmix s kI
  (oc zG<|zE) fun a w3 s=> ?_
 refine zA rfl ?_
 refine zVe ?_
 refine zBh (fun i=>i<=ts.length) (fun i=> [(0, .u (UF.eq l)),(1, .u (UF.eq l')),(5, .u (uI ((i:Nat):Int)))]) (fun i=>ts.length - i) (0:Nat) (zVm _) (s.keepK _ (fmz ⟨mz3,fmz ⟨mz4,fmz ⟨.head _,fnz⟩⟩⟩)) fun i a w hx s=> ?_
 have hlz:=zON ts
 refine zVb ?_
 refine zVb ?_
 refine zB 4 ((12, .Z (uI (i:Int)))::(13, .Z (UF.eq l))::(14, .Z (uI ((tns ts).length:Int)))::(15, .u (uB (decide ((i:Int)<((tns ts).length:Int))))):: []) hmix s kI
  (oc zC<|oc zC<|oc (y7 (z:=18) (Cs:=tns ts) kI (fun v W hb h=>(yL hl h (s.up hb))) (fun _=>rfl))<|oc (z5 .i64 (i:Int) ((tns ts).length:Int) (decide ((i:Int)<((tns ts).length:Int))) iiz iiz rfl rfl)<|zE) fun a w4 s=> ?_
 refine zA rfl ?_
 refine StS.cond s (decide ((i:Int)<((tns ts).length:Int))) iiz (fun e=> ?_) (fun e=> ?_)
 ·have hi:i<ts.length:=by have:=zVl e;rw [hlz] at this;omega
  refine zVd ?_
  refine zVb ?_
  refine zVe ?_
  refine zVb ?_
  refine zB 1 ((6, .u (uI 0)):: []) hmix s kI
   (oc zG<|zE) fun a w5 s=> ?_
  refine zA rfl ?_
  refine zVe ?_
  refine zBh (fun k=>k<=3) (fun k=> [(0, .u (UF.eq l)),(1, .u (UF.eq l')),(5, .u (uI (i:Int))),(6, .u (uI ((k:Nat):Int)))]) (fun k=>3 - k) (0:Nat) (zVm _) (s.keepK _ (fmz ⟨mz2,fmz ⟨mz3,fmz ⟨mz4,fmz ⟨.head _,fnz⟩⟩⟩⟩)) fun k a w hx s=> ?_
  refine zVb ?_
  refine zVb ?_
  refine zB 2 ((18, .Z (uI (k:Int)))::(19, .u (uB (decide ((k:Int)<3)))):: []) hmix s kI
   (oc zC<|oc (z5 .i64 (k:Int) 3 (decide ((k:Int)<3)) iiz iiz rfl rfl)<|zE) fun a w6 s=> ?_
  refine zA rfl ?_
  refine StS.cond s (decide ((k:Int)<3)) iiz (fun e=> ?_) (fun e=> ?_)
  ·have hk:k<3:=by have:=zVl e;omega
   refine zVd ?_
   refine zVb ?_
   refine zVe ?_
   refine zVb ?_
   refine zB 14 ((22, .Z (UF.eq l))::(23, .Z (uI (i:Int)))::(24, .Z (uI (k:Int)))::(25, .Y (fTN (at3 ts i)))::(26, .X (fTN (at3 ts i)) (6*k))::(27, .Z (fPN (cor (at3 ts i) k)))::(28, .Z (UF.eq l'))::(29, .Z (uI (i:Int)))::(30, .Z (uI (k:Int)))::(31, .Y (fTN (at3 ts i)))::(32, .X (fTN (at3 ts i)) (6*k))::(33, .Z (fPN (cor (at3 ts i) k)))::(34, .Z (uB true))::(35, .u (uB false)):: []) hmix s kI
    (oc zC<|oc zC<|oc zC<|oc (zZ (z:=18) (Cs:=tns ts) (i:=i) (C:=CU.agg (fTN (at3 ts i))) kI (zHg hi) (fun v W hb h=>(yL hl h (s.up hb))) iiz)<|oc (qE (C:=cg (fTN (at3 ts i))) k (6*k) (zJR hk) iiz iiz)<|oc (zS (C:=cg (fTN (at3 ts i))) (k:=6*k) 6 kI (h:=zNP hk))<|oc zC<|oc zC<|oc zC<|oc (zZ (z:=18) (Cs:=tns ts) (i:=i) (C:=CU.agg (fTN (at3 ts i))) kI (zHg hi) (fun v W hb h=>(yL hl2 h (s.up hb))) iiz)<|oc (qE (C:=cg (fTN (at3 ts i))) k (6*k) (zJR hk) iiz iiz)<|oc (zS (C:=cg (fTN (at3 ts i))) (k:=6*k) 6 kI (h:=zNP hk))<|oc (zM zD zS1 (fun u0 u1 W hb (h0:(fPN (cor (at3 ts i) k)).p u0 W) (h1:(fPN (cor (at3 ts i) k)).p u1 W)=>zKq h0 h1))<|oc (zEx true iiz (fun _=>rfl))<|zE) fun a w7 s=> ?_
   refine zA rfl ?_
   refine StS.cond s false iiz (fun e=>by cases e) (fun e=> ?_)
   refine zVd ?_
   refine yJ 2 ((20, .Z (uI (k:Int)))::(21, .u (uI ((k+1:Nat):Int))):: []) s kI
    (oc zC<|oc (yX .i64 (k:Int) 1 ((k+1:Nat):Int) iiz iiz (wrap64 _ _ oP oP))<|zE) fun a w8 s=> ?_
   replace s:=s.drop [6]
   refine qN (uI ((k+1:Nat):Int)) rfl s kI iiz fun a w s=> ?_
   refine zA rfl ?_
   exact ⟨k+1,hk,(by show 3 - (k+1)<3 - k;omega),s.keepK _ (fmz ⟨mz4,fmz ⟨mz5,fmz ⟨mz6,fmz ⟨.head _,fnz⟩⟩⟩⟩)⟩
  ·refine zVk ?_
   refine yJ 2 ((16, .Z (uI (i:Int)))::(17, .u (uI ((i+1:Nat):Int))):: []) s kI
    (oc zC<|oc (yX .i64 (i:Int) 1 ((i+1:Nat):Int) iiz iiz (wrap64 _ _ oP oP))<|zE) fun a w9 s=> ?_
   replace s:=s.drop [5]
   refine qN (uI ((i+1:Nat):Int)) rfl s kI iiz fun a w s=> ?_
   refine zA rfl ?_
   exact ⟨i+1,hi,(by show ts.length - (i+1)<ts.length - i;omega),s.keepK _ (fmz ⟨mz3,fmz ⟨mz4,fmz ⟨.head _,fnz⟩⟩⟩)⟩
 ·refine zVk ?_
  refine zVb ?_
  refine zB 1 ((4, .u (uB true)):: []) hmix s kI
   (oc zG<|zE) fun a w10 s=> ?_
  refine zA rfl ?_
  refine zVf ?_
  exact wF s (t:=4) rfl iiz
end Go.Proofs.Wd

namespace Go.Proofs.Wd
open Tryz
set_option maxRecDepth 100000
set_option maxHeartbeats 1000000
open Go.RowKit Lb
theorem zEq {W:Wp} {l:Wq} {L:List Int} (hl:(SF.row 1 (zDe L)).p l W) (hL:zTB L) (hn:L.length<=1000000):Calls prog 31 #[l] W (Ret W (wE W 30 6 (pns (zCo L (L.length / 2))))):=by
 refine yF [(UF.eq l).tS] func31 rfl kI ⟨rfl,trivial⟩ fun a s=> ?_
 replace s:=s.renew [(0, .u (UF.eq l))] (fmz ⟨.inr ⟨_,rfl, .head _⟩,fnz⟩)
 refine zVb ?_
 refine zB 1 ((2, .u (UF.eq (.slice none 0 0))):: []) hmix s kI
  (oc zG<|zE) fun a w1 s=> ?_
 refine zA rfl ?_
 refine zVb ?_
 refine zB 1 ((3, .u (UF.eq (.slice none 0 0))):: []) hmix s kI
  (oc zG<|zE) fun a w2 s=> ?_
 refine zA rfl ?_
 refine zVb ?_
 refine zVb ?_
 refine zB 1 ((4, .u (uI 0)):: []) hmix s kI
  (oc zG<|zE) fun a w3 s=> ?_
 refine zA rfl ?_
 refine zVe ?_
 refine zJW (fun (p:Nat×Wq) w=>2*p.1<=L.length/\W.heap.size<=w.heap.size/\zAs w W.heap.size 30 6 p.2 (pns (zCo L p.1))) (fun p=> [(0, .u (UF.eq l)),(3, .u (UF.eq (p.2))),(4, .u (uI ((2*p.1:Nat):Int)))]) (fun p=>L.length - 2*p.1) (0, .slice none 0 0) (⟨zVm _,s.gr.size,zAs.nil _ _ _ _⟩) (s.keepK _ (fmz ⟨mz3,fmz ⟨mz1,fmz ⟨.head _,fnz⟩⟩⟩)) fun p a w hI s=> ?_
 have s0:=s
 have hlw:=(SF.row 1 (zDe L)).st _ _ _ hl s0.below
 replace s:=s.reb rfl [(0, .u (UF.eq l)),(3, .u (UF.eq (p.2))),(4, .u (uI ((2*p.1:Nat):Int)))] (fmz ⟨.inl (.head _),fmz ⟨.inl mz1,fmz ⟨.inl mz2,fnz⟩⟩⟩)
 refine zVb ?_
 refine zVb ?_
 refine zB 5 ((5, .Z (uI ((2*p.1:Nat):Int)))::(6, .Z (uI ((2*p.1+1:Nat):Int)))::(7, .Z (UF.eq l))::(8, .Z (uI ((zDe L).length:Int)))::(9, .u (uB (decide (((2*p.1+1:Nat):Int)<((zDe L).length:Int))))):: []) hmix s kI
  (oc zC<|oc (yX .i64 ((2*p.1:Nat):Int) 1 ((2*p.1+1:Nat):Int) iiz iiz (wrap64 _ _ oP oP))<|oc zC<|oc (y7 (z:=1) (Cs:=zDe L) kI (fun v W hb h=>(yL hlw h (s.up hb))) (fun _=>rfl))<|oc (z5 .i64 ((2*p.1+1:Nat):Int) ((zDe L).length:Int) (decide (((2*p.1+1:Nat):Int)<((zDe L).length:Int))) iiz iiz rfl rfl)<|zE) fun a w4 s=> ?_
 refine zA rfl ?_
 refine StS.cond s (decide (((2*p.1+1:Nat):Int)<((zDe L).length:Int))) iiz (fun e=> ?_) (fun e=> ?_)
 ·have hk:2*p.1+1<L.length:=by have:=zVl e;simp at this;omega
  refine zVd ?_
  refine zVb ?_
  refine zVe ?_
  refine zB5 (K:= [(9, .u (uB (decide (((2*p.1+1:Nat):Int)<((zDe L).length:Int))))),(0, .u (UF.eq l)),(4, .u (uI ((2*p.1:Nat):Int)))]) [(3, .u (UF.eq (p.2)))] [0,1,2,5,6] 12 ((12, .u (UF.eq (p.2)))::(13, .Z (UF.eq l))::(14, .Z (uI ((2*p.1:Nat):Int)))::(15, .s (wC (wB [.int .i64 (gI L (2*p.1))]).cf))::(16, .Z (uI (gI L (2*p.1))))::(17, .Z (UF.eq l))::(18, .Z (uI ((2*p.1:Nat):Int)))::(19, .Z (uI ((2*p.1+1:Nat):Int)))::(20, .s (wC (wB [.int .i64 (gI L (2*p.1+1))]).cf))::(21, .Z (uI (gI L (2*p.1+1))))::(22, .Z (fPN (((gI L (2*p.1):Int):Rat),((gI L (2*p.1+1):Int):Rat))))::(23, .s (SF.row 6 [CU.agg (fPN (((gI L (2*p.1):Int):Rat),((gI L (2*p.1+1):Int):Rat)))])):: []) hmix (s.keepK _ (fmz ⟨mz2,fmz ⟨.head _,fmz ⟨mz1,fmz ⟨mz3,fnz⟩⟩⟩⟩)) kI
   (oc zC<|oc zC<|oc zC<|oc (zZ (z:=1) (Cs:=zDe L) (i:=(2*p.1)) (C:=wB [.int .i64 (gI L (2*p.1))]) kI (zFY oP) (fun v W hb h=>(yL hlw h (s.up hb))) iiz)<|oc (yW (C:=(wB [.int .i64 (gI L (2*p.1))]).cf) kI iiz zAq)<|oc zC<|oc zC<|oc (yX .i64 ((2*p.1:Nat):Int) 1 ((2*p.1+1:Nat):Int) iiz iiz (wrap64 _ _ oP oP))<|oc (zZ (z:=1) (Cs:=zDe L) (i:=(2*p.1+1)) (C:=wB [.int .i64 (gI L (2*p.1+1))]) kI (zFY oP) (fun v W hb h=>(yL hlw h (s.up hb))) iiz)<|oc (yW (C:=(wB [.int .i64 (gI L (2*p.1+1))]).cf) kI iiz zAq)<|oc (zM zD zRK (fun u0 u1 W hb (h0:u0= .int .i64 (gI L (2*p.1))) (h1:u1= .int .i64 (gI L (2*p.1+1)))=>zN2 h0 h1 (hL _) (hL _)))<|oc (jP (fun u W (hu:(fPN (((gI L (2*p.1):Int):Rat),((gI L (2*p.1+1):Int):Rat))).p u W)=>zJ2 hu))<|zE) fun Q' hQ a w5 s hr=> ?_
  refine zQE ([CU.agg (fPN (((gI L (2*p.1):Int):Rat),((gI L (2*p.1+1):Int):Rat)))]) s0 (s.keepK [(12, .u (UF.eq (p.2))),(9, .u (uB (decide (((2*p.1+1:Nat):Int)<((zDe L).length:Int))))),(0, .u (UF.eq l)),(4, .u (uI ((2*p.1:Nat):Int)))] (fmz ⟨.head _,fmz ⟨mz1,fmz ⟨mz2,fmz ⟨mz3,fnz⟩⟩⟩⟩)) lr hI.2 rfl kI kI kI (s.fct (.tmp 12)) (hr (_,_) zRc) (zOb _ _) (by simp [zBp];omega) (fun q hq=>by cases hq) fun v' a w hI' s=> ?_
  have s1:=s
  replace s:=s.reb rfl [(24, .u (UF.eq v')),(12, .u (UF.eq (p.2))),(9, .u (uB (decide (((2*p.1+1:Nat):Int)<((zDe L).length:Int))))),(0, .u (UF.eq l)),(4, .u (uI ((2*p.1:Nat):Int)))] (fmz ⟨.inl (.head _),fmz ⟨.inl mz1,fmz ⟨.inl mz2,fmz ⟨.inl mz3,fmz ⟨.inl mz4,fnz⟩⟩⟩⟩⟩)
  refine qN (UF.eq v') rfl s kI iiz fun a w s=> ?_
  refine zA rfl (hQ _ _ ?_)
  refine yJ 2 ((10, .Z (uI ((2*p.1:Nat):Int)))::(11, .u (uI ((2*(p.1+1):Nat):Int))):: []) s kI
   (oc zC<|oc (yX .i64 ((2*p.1:Nat):Int) 2 ((2*(p.1+1):Nat):Int) iiz iiz (wrap64 _ _ oP oP))<|zE) fun a w6 s=> ?_
  replace s:=s.drop [4]
  refine qN (uI ((2*(p.1+1):Nat):Int)) rfl s kI iiz fun a w s=> ?_
  refine zA rfl ?_
  have hbw:=s.below
  replace s:=s1.back (s.keepK [(4, .u (uI ((2*(p.1+1):Nat):Int))),(11, .u (uI ((2*(p.1+1):Nat):Int))),(3, .u (UF.eq v')),(24, .u (UF.eq v')),(12, .u (UF.eq (p.2))),(9, .u (uB (decide (((2*p.1+1:Nat):Int)<((zDe L).length:Int))))),(0, .u (UF.eq l))] (fmz ⟨.head _,fmz ⟨mz1,fmz ⟨mz2,fmz ⟨mz3,fmz ⟨mz4,fmz ⟨mz5,fmz ⟨mz6,fnz⟩⟩⟩⟩⟩⟩⟩)) rfl
  exact ⟨(p.1+1,v'),(by show L.length - 2*(p.1+1)<L.length - 2*p.1;omega),⟨by show 2*(p.1+1)<=_;omega,zVi hI'.1 hbw.size,by show zAs _ _ _ _ _ (pns (zCo L (p.1+1)));rw [zJO];exact hI'.2.below hbw⟩,s.keepK _ (fmz ⟨mz6,fmz ⟨mz2,fmz ⟨.head _,fnz⟩⟩⟩)⟩
 ·have hk:p.1=L.length / 2:=by have h7:=zVj e;have h8:=hI.1;simp at h7;omega
  refine zVk ?_
  refine zVb ?_
  refine zB 2 ((25, .Z (UF.eq (p.2)))::(2, .u (UF.eq (p.2))):: []) hmix s kI
   (oc zC<|oc zG<|zE) fun a w7 s=> ?_
  refine zA rfl ?_
  refine zVf ?_
  exact StS.resN s s0.below rfl (by rw [s.val (.head _)];have:=hI.2.2.below s.below;rw [hk] at this;exact this)
def PX.b16 (x:PX):Bool:=decide (1<max (max (max x.1.n x.1.n') x.2.n) x.2.n')
def g16 (L:List PX):Bool:=(L.take 8).any PX.b16||decide (7<L.length)
theorem zE2 {x:PX} (h:x.b16=false) {v:Wq} {W:Wp} (hv:x.u.p v W):(fPV 1 x.p).p v W:=by
 have h:=zVj h
 exact zHy (fun v W h'=>zTy h' oP oP) (fun v W h'=>zTy h' oP oP) hv
theorem zNn {L:List PX} (h:g16 L=false):L.length<=7/\ ∀x,x∈L->x.b16=false:=by
 unfold g16 at h
 rw [Bool.or_eq_false_iff] at h
 have h2:=zVj h.2
 refine ⟨by omega,fun x hx=> ?_⟩
 have h1:=List.any_eq_false.1 h.1 x (by rw [List.take_of_length_le oP];exact hx)
 simpa using h1
theorem zPT {L:List PX} {k:Nat} {x:PX} (hk:k<=7) (hx:L[k]?=some x) (h:x.b16=true):g16 L=true:=by
 unfold g16
 rw [Bool.or_eq_true]
 left
 refine List.any_eq_true.2 ⟨x, ?_,h⟩
 have hlt:=(zVC.1 hx).1
 exact List.mem_of_getElem? (i:=k) (by rw [List.getElem?_take,if_pos oP];exact hx)
theorem zPS {L:List PX} (h: ∀j y,j<8->L[j]?=some y->PX.b16 y=false):g16 L=decide (((pxs L).length:Int)>7):=by
 unfold g16
 have:(L.take 8).any PX.b16=false:=by
  refine List.any_eq_false.2 fun x hx=> ?_
  obtain ⟨j,hj⟩:=List.getElem?_of_mem hx
  rw [List.getElem?_take] at hj
  split at hj
  ·rename_i hlt
   rw [h j x hlt hj];simp
  ·cases hj
 rw [this,Bool.false_or,decide_eq_decide,zVn]
 omega
theorem zIH {L:List PX} {W:Wp} {l:Wq} (hl:(SF.row 6 (pxs L)).p l W):Calls prog 6 #[l] W (Ret W (fB (g16 L)).tS):=by
 refine yF [SF.row 6 (pxs L)] func6 rfl kI ⟨hl,trivial⟩ fun a s=> ?_
 refine zVb ?_
 refine zB 1 ((2, .u (uB false)):: []) hmix s kI
  (oc zG<|zE) fun a w1 s=> ?_
 refine zA rfl ?_
 refine zVb ?_
 refine zVb ?_
 refine zB 1 ((3, .u (uI 0)):: []) hmix s kI
  (oc zG<|zE) fun a w2 s=> ?_
 refine zA rfl ?_
 refine zVe ?_
 refine zBh (fun k=>k<=L.length/\k<=8/\ ∀j y,j<k->L[j]?=some y->PX.b16 y=false) (fun k=> [(0, .o (SF.row 6 (pxs L))),(3, .u (uI ((k:Nat):Int)))]) (fun k=>8 - k) (0:Nat) (⟨zVm _,by omega,fun j y hj=>absurd hj (zVD _)⟩) (s.keepK _ (fmz ⟨mz2,fmz ⟨.head _,fnz⟩⟩)) fun k a w hx s=> ?_
 refine zVb ?_
 refine zVb ?_
 refine zB 8 ((4, .Z (uI (k:Int)))::(5, .s (SF.row 6 (pxs L)))::(6, .Z (uI ((pxs L).length:Int)))::(7, .Z (uB (decide ((k:Int)<((pxs L).length:Int)))))::(8, .Z (uB (decide ((k:Int)<((pxs L).length:Int)))))::(9, .s (SF.imp ((decide ((k:Int)<((pxs L).length:Int)))=true) ((uI (k:Int)).tS)))::(10, .s (SF.imp ((decide ((k:Int)<((pxs L).length:Int)))=true) ((uB (decide ((k:Int)<=7))).tS)))::(11, .u (uB ((decide ((k:Int)<((pxs L).length:Int)))&&(decide ((k:Int)<=7))))):: []) hmix s kI
  (oc zC<|oc zC<|oc (zFK (z:=6) (Cs:=pxs L) kI iiz (fun _=>rfl))<|oc (z5 .i64 (k:Int) ((pxs L).length:Int) (decide ((k:Int)<((pxs L).length:Int))) iiz iiz rfl rfl)<|oc zC<|oc (zF 8 (decide ((k:Int)<((pxs L).length:Int))) kI iiz (fun e=>zDf [] ((uI (k:Int)).tS) fnz fP kI zC) fN)<|oc (zF 8 (decide ((k:Int)<((pxs L).length:Int))) kI iiz (fun e=>zDf [(9,(uI (k:Int)).tS)] ((uB (decide ((k:Int)<=7))).tS) (fmz ⟨fun v W h=>zBR (c:=(decide ((k:Int)<((pxs L).length:Int)))=true) (f:=(uI (k:Int)).tS) e h,fnz⟩) fP kI (z5 .i64 (k:Int) 7 (decide ((k:Int)<=7)) iiz iiz rfl rfl)) fN)<|oc (qX (decide ((k:Int)<((pxs L).length:Int))) iiz (fun e v W h=>zIu (zBR e h) e) (fun e v W h=>zGE h e))<|zE) fun a w3 s=> ?_
 refine zA rfl ?_
 refine StS.cond s ((decide ((k:Int)<((pxs L).length:Int)))&&(decide ((k:Int)<=7))) iiz (fun e=> ?_) (fun e=> ?_)
 ·rw [Bool.and_eq_true] at e
  have hk1:k<L.length:=by have:=zVl e.1;simp at this;omega
  have hk2:k<=7:=by have:=zVl e.2;omega
  obtain ⟨x,hxl⟩: ∃x,L[k]?=some x:=⟨_,zVz hk1⟩
  have hx_:(pxs L)[k]?=some (PX.cu x):=by rw [zVu,hxl];rfl
  refine zVd ?_
  refine zVb ?_
  refine zVe ?_
  refine zVb ?_
  refine zB 32 ((14, .s (SF.row 6 (pxs L)))::(15, .Z (uI (k:Int)))::(16, .s (wC (PX.cu x).cf))::(17, .s (wC ((PX.cu x).cf.at 0)))::(18, .s (wC ((PX.cu x).cf.at 0)))::(19, .s (wC ((PX.cu x).cf.at 1)))::(20, .Z (fSl (x.1.n)))::(21, .Z (uI (x.1.n:Int)))::(22, .s (SF.row 6 (pxs L)))::(23, .Z (uI (k:Int)))::(24, .s (wC (PX.cu x).cf))::(25, .s (wC ((PX.cu x).cf.at 0)))::(26, .s (wC ((PX.cu x).cf.at 2)))::(27, .Z (fSl (x.1.n')))::(28, .Z (uI (x.1.n':Int)))::(29, .s (SF.row 6 (pxs L)))::(30, .Z (uI (k:Int)))::(31, .s (wC (PX.cu x).cf))::(32, .s (wC ((PX.cu x).cf.at 3)))::(33, .s (wC ((PX.cu x).cf.at 3)))::(34, .s (wC ((PX.cu x).cf.at 4)))::(35, .Z (fSl (x.2.n)))::(36, .Z (uI (x.2.n:Int)))::(37, .s (SF.row 6 (pxs L)))::(38, .Z (uI (k:Int)))::(39, .s (wC (PX.cu x).cf))::(40, .s (wC ((PX.cu x).cf.at 3)))::(41, .s (wC ((PX.cu x).cf.at 5)))::(42, .Z (fSl (x.2.n')))::(43, .Z (uI (x.2.n':Int)))::(44, .Z (uI ((max (max (max x.1.n x.1.n') x.2.n) x.2.n':Nat):Int)))::(45, .u (uB (PX.b16 x))):: []) hmix s kI
   (oc zC<|oc zC<|oc (zCv (z:=6) (Cs:=pxs L) (i:=k) (C:=PX.cu x) kI hx_ iiz iiz)<|oc (zP (C:=(PX.cu x).cf) 0 kI)<|oc (yZ (C:=(PX.cu x).cf) 0 0 kI)<|oc (yZ (C:=(PX.cu x).cf) 0 1 kI)<|oc (jI (C:=(PX.cu x).cf) (k:=1) kI (h:=zTQ))<|oc (zCa kI (fun v W ⟨A_,c_,e_⟩=>⟨A_,x.1.n,c_,e_,rfl⟩))<|oc zC<|oc zC<|oc (zCv (z:=6) (Cs:=pxs L) (i:=k) (C:=PX.cu x) kI hx_ iiz iiz)<|oc (zP (C:=(PX.cu x).cf) 0 kI)<|oc (yZ (C:=(PX.cu x).cf) 0 2 kI)<|oc (jI (C:=(PX.cu x).cf) (k:=2) kI (h:=zTP))<|oc (zCa kI (fun v W ⟨A_,c_,e_⟩=>⟨A_,x.1.n',c_,e_,rfl⟩))<|oc zC<|oc zC<|oc (zCv (z:=6) (Cs:=pxs L) (i:=k) (C:=PX.cu x) kI hx_ iiz iiz)<|oc (zP (C:=(PX.cu x).cf) 3 kI)<|oc (yZ (C:=(PX.cu x).cf) 3 0 kI)<|oc (yZ (C:=(PX.cu x).cf) 3 1 kI)<|oc (jI (C:=(PX.cu x).cf) (k:=4) kI (h:=zTO))<|oc (zCa kI (fun v W ⟨A_,c_,e_⟩=>⟨A_,x.2.n,c_,e_,rfl⟩))<|oc zC<|oc zC<|oc (zCv (z:=6) (Cs:=pxs L) (i:=k) (C:=PX.cu x) kI hx_ iiz iiz)<|oc (zP (C:=(PX.cu x).cf) 3 kI)<|oc (yZ (C:=(PX.cu x).cf) 3 2 kI)<|oc (jI (C:=(PX.cu x).cf) (k:=5) kI (h:=zTN))<|oc (zCa kI (fun v W ⟨A_,c_,e_⟩=>⟨A_,x.2.n',c_,e_,rfl⟩))<|oc (zPw (x.1.n) (x.1.n') (x.2.n) (x.2.n') iiz iiz iiz iiz)<|oc (z5 .i64 ((max (max (max x.1.n x.1.n') x.2.n) x.2.n':Nat):Int) 1 (PX.b16 x) iiz iiz (by unfold PX.b16;show decide (((max (max (max x.1.n x.1.n') x.2.n) x.2.n':Nat):Int)>1)=_;rw [decide_eq_decide];omega) rfl)<|zE) fun a w4 s=> ?_
  refine zA rfl ?_
  refine StS.cond s (PX.b16 x) iiz (fun e=> ?_) (fun e=> ?_)
  ·refine zVb ?_
   refine zB 1 ((2, .u (uB true)):: []) hmix s kI
    (oc zG<|zE) fun a w5 s=> ?_
   refine zA rfl ?_
   refine zVf ?_
   exact wF s (t:=2) rfl (fun v W h=>by rw [zPT hk2 hxl e];exact h)
  ·have hbig:=e
   refine zVd ?_
   refine yJ 2 ((12, .Z (uI (k:Int)))::(13, .u (uI ((k+1:Nat):Int))):: []) s kI
    (oc zC<|oc (yX .i64 (k:Int) 1 ((k+1:Nat):Int) iiz iiz (wrap64 _ _ oP oP))<|zE) fun a w6 s=> ?_
   replace s:=s.drop [3]
   refine qN (uI ((k+1:Nat):Int)) rfl s kI iiz fun a w s=> ?_
   refine zA rfl ?_
   exact ⟨k+1,⟨by omega,by omega,fun j y hj hy=>by rcases Nat.lt_or_eq_of_le (Nat.le_of_lt_succ hj) with h|h;exact hx.2.2 j y h hy;rw [h,hxl] at hy;cases hy;exact hbig⟩,(by show 8 - (k+1)<8 - k;omega),s.keepK _ (fmz ⟨mz4,fmz ⟨.head _,fnz⟩⟩)⟩
 ·have hend:L.length<=k∨k=8:=by
   rw [Bool.and_eq_false_iff] at e
   rcases e with e|e
   ·have h7:=zVj e;simp at h7;omega
   ·have h7:=zVj e;omega
  refine zVk ?_
  refine zVb ?_
  refine zB 4 ((46, .s (SF.row 6 (pxs L)))::(47, .Z (uI ((pxs L).length:Int)))::(48, .Z (uB (decide (((pxs L).length:Int)>7))))::(2, .u (uB (decide (((pxs L).length:Int)>7)))):: []) hmix s kI
   (oc zC<|oc (zFK (z:=6) (Cs:=pxs L) kI iiz (fun _=>rfl))<|oc (z5 .i64 ((pxs L).length:Int) 7 (decide (((pxs L).length:Int)>7)) iiz iiz rfl rfl)<|oc zG<|zE) fun a w7 s=> ?_
  refine zA rfl ?_
  refine zVf ?_
  exact wF s (t:=2) rfl (fun v W h=>by rw [zPS (fun j y hj hy=>hx.2.2 j y (by have:=(zVC.1 hy).1;omega) hy)];exact h)
section
variable {S:Nat->Prop} {F:Fence} {m:Nat} {P:Program} {Q:Exit->Act->Wp->Prop} {w0 w1:Wp} {K:List (Nat×KF)} {B:List Bx} {n:Nat} {ds:List Deferred} {a:Act} {w:Wp} {ops:Array Oper}
theorem StS.is2 {t t':Nat} {e e':Wr} {C C':CU} {b b':Nat} {r r':Bool} {v v':Wq} (h:StS S w0 K [⟨t,e,C,b,r⟩,⟨t',e',C',b',r'⟩] n ds a w) (hv:w.heap[b]?=some (.cells #[v] e (0,0))) (hv':w.heap[b']?=some (.cells #[v'] e' (0,0))):StS S w0 K [⟨t,e,wB [v],b,r⟩,⟨t',e',wB [v'],b',r'⟩] n ds a w:=by
 refine ⟨h.gr,h.size,h.nd,h.sl, ?_,h.mks,h.so⟩
 obtain ⟨⟨cs,h1,h2,h3,h4,h5,h6⟩,⟨cs',g1,g2,g3,g4,g5,g6⟩,h7⟩:=h.bx
 rw [show w.heap[b]?=_ from hv] at h3
 rw [show w.heap[b']?=_ from hv'] at g3
 injection h3 with h3;injection h3 with h3
 injection g3 with g3;injection g3 with g3
 have e1:cs= [v]:=by simpa using congrArg Array.toList h3.symm
 have e2:cs'= [v']:=by simpa using congrArg Array.toList g3.symm
 exact ⟨⟨cs,h1,h2,hv.trans (by rw [e1]),e1,h5,fun y hy=>by obtain rfl:=zVh.1 hy;exact h6 ⟨t',e',C',b',r'⟩ (.head _)⟩,⟨cs',g1,g2,hv'.trans (by rw [e2]),e2,g5,fun y hy=>by cases hy⟩,h7⟩
theorem zJT {k d g:Nat} {f:FuncId} {xs:Array Operand} {args:Array Wq} {ats:Array Wr} {ty:Wr} {pos:String} {aft:Array Edge} {v':Wq} {R:Wp->Prop} (hF:zHN F m P) (he:Enters P f) (h:StS S w1 K B n [] a w) (hS:S g∨w1.heap.size<=g) (ho:ops[k]?=some ⟨some d, .call ⟨.value (.func f),xs,ats⟩,ty,pos,aft,none⟩)
  (hf:zAc K B n d=true) (hu:(K.all fun q=>zHG q.2)=true) (hk: ∀w',w.grownBy w' (some g)->yO w w') (hB: ∀q,q∈B->q.b≠g) (hargs:xs.map a.eval=args) (hc:Calls P f args w fun e w'=>e= .returned v'/\R w'/\w.grownBy w' (some g))
  (fin: ∀a' w',R w'->w.grownBy w' (some g)->StS S w1 ((d, .u (UF.eq v'))::K) B n [] a' w'->zA8 F m P ops Q (k+1) a' w'):zA8 F m P ops Q k a w:=by
 subst hargs
 refine j5 ho rfl ⟨fun g _=>hF.1 g, ?_⟩
 rw [Oper.semAt_eq _ _ _ (fun _ e=>by cases e),execOp_call_go,he]
 simp only [Oper.uponIn_enter]
 refine ⟨hF.2.1,CallsIn.mono (hF.2.2 _ _ _ _ (by simpa using hc)) fun e W' hh=> ?_⟩
 obtain ⟨rfl,hR,hg⟩:=hh
 have hkU:=hk _ hg
 have s1:StS S w1 K B n [] a W':=by
  refine ⟨h.gr.grown hg hS.symm,h.size,h.nd,fun q hq=> ?_, ?_,⟨[],Marks.nil _ _⟩, .inl (yN hu)⟩
  ·obtain ⟨f,ef⟩:=yN hu q hq
   have h1:=h.sl q hq
   rw [ef] at h1 ⊢
   exact f.us _ _ _ h1 hkU
  ·refine wL hkU B (fun q hq=> ?_) h.bx
   obtain ⟨_,_,_,h3,_⟩:=h.bx.mem q hq
   exact hg.block _ (zVc.1 h3).1 (fun e=>hB q hq (by injection e))
 exact fin _ W' hR hg (s1.set hf (zVt _ _) rfl)
end
theorem zDj (n:Nat) (l:List V2):zJw (n+1) l=if l.length<=3 then some (zEQ l) else match zGS l with|some i=>zJw n (l.eraseIdx i)|none=>match zP4 l with|some i=>(zJw n (l.eraseIdx i)).map (zAP l i::·)|none=>none:=rfl
structure CutI (n0:Nat) (row0:List V2) (acc:List V6) (row:List V2) (f:Nat):Prop where
 len:row.length<=f
 few:row.length<=12
 sum:acc.length+row.length<=12
 eq:(zJw f row).map (acc++·)=zJw n0 row0
theorem CutI.start {row:List V2} (h:row.length<=12):CutI row.length row [] row row.length:=⟨Nat.le_refl _,h,by simpa using h,by cases zJw row.length row<;>simp⟩
theorem CutI.flat {n0:Nat} {row0:List V2} {acc:List V6} {row:List V2} {f i:Nat} (h:CutI n0 row0 acc row f) (h3:3<row.length) (hi:zGS row=some i): ∃f',f=f'+1/\CutI n0 row0 acc (row.eraseIdx i) f':=by
 obtain ⟨f',rfl⟩: ∃f',f=f'+1:=⟨f - 1,by have:=h.len;omega⟩
 have hlt:i<row.length:=zVA.1 (zVE hi)
 have e:=h.eq
 rw [zDj] at e
 rw [if_neg oP] at e
 rw [hi] at e
 refine ⟨f',rfl, ?_, ?_, ?_,e⟩
 ·have:=h.len;rw [zVo hlt];omega
 ·have:=h.few;rw [zVo hlt];omega
 ·have:=h.sum;rw [zVo hlt];omega
theorem CutI.ear {n0:Nat} {row0:List V2} {acc:List V6} {row:List V2} {f i:Nat} (h:CutI n0 row0 acc row f) (h3:3<row.length) (h0:zGS row=none) (hi:zP4 row=some i): ∃f',f=f'+1/\CutI n0 row0 (acc++ [zAP row i]) (row.eraseIdx i) f':=by
 obtain ⟨f',rfl⟩: ∃f',f=f'+1:=⟨f - 1,by have:=h.len;omega⟩
 have hlt:i<row.length:=zVA.1 (zVE hi)
 have e:=h.eq
 rw [zDj] at e
 rw [if_neg oP,h0] at e
 simp only [hi] at e
 refine ⟨f',rfl, ?_, ?_, ?_, ?_⟩
 ·have:=h.len;rw [zVo hlt];omega
 ·have:=h.few;rw [zVo hlt];omega
 ·have:=h.sum;rw [zVG,List.length_singleton,zVo hlt];omega
 ·rw [<-e]
  cases zJw f' (row.eraseIdx i)<;>simp
theorem CutI.none {n0:Nat} {row0:List V2} {acc:List V6} {row:List V2} {f:Nat} (h:CutI n0 row0 acc row f) (h3:3<row.length) (h0:zGS row=none) (h1:zP4 row=none):zJw n0 row0=none:=by
 obtain ⟨f',rfl⟩: ∃f',f=f'+1:=⟨f - 1,by have:=h.len;omega⟩
 have e:=h.eq
 rw [zDj] at e
 rw [if_neg oP,h0] at e
 simp only [h1] at e
 exact e.symm
theorem CutI.done {n0:Nat} {row0:List V2} {acc:List V6} {row:List V2} {f:Nat} (h:CutI n0 row0 acc row f) (h0:0<f) (h3:row.length<=3):zJw n0 row0=some (acc++zEQ row):=by
 obtain ⟨f',rfl⟩: ∃f',f=f'+1:=⟨f - 1,by omega⟩
 have e:=h.eq
 rw [zDj] at e
 rw [if_pos h3] at e
 exact e.symm
theorem zF4 {p:Nat->Bool} {n:Nat} (h: ∀j,j<n->p j=false):(List.range n).find? p=none:=by
 rw [List.find?_eq_none]
 intro j hj
 rw [h j (zVA.1 hj)]
 decide
theorem zLn {p:Nat->Bool} {n k:Nat} (hk:k<n) (h: ∀j,j<k->p j=false) (e:p k=true):(List.range n).find? p=some k:=by
 obtain ⟨d,rfl⟩: ∃d,n=k+1+d:=⟨n - (k+1),by omega⟩
 rw [List.range_add,zVH,List.find?_append,List.find?_append,zF4 h]
 simp [e]
end Go.Proofs.Wd

namespace Go.Proofs.Wd
open Tryz
set_option maxRecDepth 100000
set_option maxHeartbeats 4000000
open Go.RowKit Lb
structure CutM (base b2 b3:Nat) (acc:List V6) (row:List V2) (vo:Value) (g cap:Nat) (w:World):Prop where
 sz:base<=w.heap.size
 h2:w.heap[b2]?=some (.cells #[vo] 33 (0,0))
 h3:w.heap[b3]?=some (.cells #[.slice (some ⟨g,0,none⟩) row.length cap] 22 (0,0))
 ro:zAs w base 38 18 vo (tns acc)
 gb:base<=g
 rr:zCR w g 30 6 cap (pns row)
theorem zCR.keepC {w w':Wp} {g:Nat} {e:Wr} {z cap:Nat} {Cs:List CU} (h:zCR w g e z cap Cs) (hk:zCB w w'):zCR w' g e z cap Cs:=by
 obtain ⟨cur,h1,h2,h3,h4,h5,h6⟩:=h
 exact ⟨cur,hk.2 _ _ h1 rfl,h2,h3,h4,h5,fun i C hi=>C.us _ _ _ (h6 i C hi) hk.keepU⟩
theorem CutM.keepC {base b2 b3:Nat} {acc:List V6} {row:List V2} {vo:Wq} {g cap:Nat} {w w':Wp} (h:CutM base b2 b3 acc row vo g cap w) (hk:zCB w w'):CutM base b2 b3 acc row vo g cap w':=
 ⟨zVi h.sz hk.1,hk.2 _ _ h.h2 rfl,hk.2 _ _ h.h3 rfl,h.ro.keepC hk,h.gb,h.rr.keepC hk⟩
def fCM (base b2 b3:Nat) (acc:List V6) (row:List V2) (vo:Wq) (g cap:Nat):SF:=⟨fun v w=>v= .slice (some ⟨g,0,none⟩) row.length cap/\CutM base b2 b3 acc row vo g cap w,fun _ _ _ h hb=>⟨h.1,h.2.keepC (jJ hb)⟩⟩
theorem zCR.keep {w w':Wp} {g:Nat} {e:Wr} {z cap:Nat} {Cs:List CU} (h:zCR w g e z cap Cs) (hb:w'.heap[g]?=w.heap[g]?) (hk:yO w w'):zCR w' g e z cap Cs:=by
 obtain ⟨cur,h1,h2,h3,h4,h5,h6⟩:=h
 exact ⟨cur,hb.trans h1,h2,h3,h4,h5,fun i C hi=>C.us _ _ _ (h6 i C hi) hk⟩
theorem zCR.at {w:Wp} {g:Nat} {e:Wr} {z cap:Nat} {Cs:List CU} (h:zCR w g e z cap Cs): ∃cur:Array Wq,w.heap[g]?=some (.cells cur e (0,0)):=⟨h.choose,h.choose_spec.1⟩
theorem zAn (ps:List V2):(pns ps).length=ps.length:=by simp [pns]
theorem zGB (ps:List V2) (i:Nat):(pns ps).eraseIdx i=pns (ps.eraseIdx i):=by
 unfold pns
 rw [zVJ,zVJ,List.map_append,List.map_take,List.map_drop]
theorem jC {w:Wp} {b c:Nat} {cs cs':Array Wq} {e e':Wr} {z z':Nat×Nat} (h:w.heap[b]?=some (.cells cs e z)) (h':w.heap[c]?=some (.cells cs' e' z')) (hne:e≠e'):b≠c:=fun k=>by
 subst k
 rw [h] at h'
 injection h' with h'
 injection h' with _ h'
 exact hne h'
theorem qH {w:Wp} {base z:Nat} {e:Wr} {v:Wq} {Cs:List CU} (h:zAs w base e z v Cs) {g:Nat} (hg:v.ownBlock=some g): ∃cur:Array Wq,w.heap[g]?=some (.cells cur e (0,0)):=by
 rcases h with ⟨rfl,_⟩|⟨g',cap,cur,rfl,hb,h1,h2⟩
 ·simp [Value.ownBlock] at hg
 ·simp [Value.ownBlock] at hg
  subst hg
  exact ⟨cur,h1⟩
theorem zLc {S':Nat->Prop} {w w1:Wp} (hb:BlS S' w w1) (h: ∀q,S' q-> ∃(cs:Array Wq) (t:Wr) (z:Nat×Nat),w.heap[q]?=some (.cells cs t z)/\cs.toList.all zV=true):yO w w1:=fun q u hq=>by
 have hlt:=World.block_lt_of_cell? w _ hq
 by_cases e:S' q.block
 ·exfalso
  obtain ⟨cs,t,z,h3,h5⟩:=h _ e
  have:=zBD h3 h5 rfl hq
  cases this
 ·exact (World.cell?_of_block (hb.block _ hlt e)).trans hq
section
variable {S:Nat->Prop} {P:Program} {Q:Exit->Act->Wp->Prop} {w0:Wp} {K:List (Nat×KF)} {B:List Bx} {n:Nat} {ds:List Deferred} {a:Act} {w:Wp} {ops:Array Oper} {m:Nat} {F:Fence}
theorem zCU {k c kk o:Nat} {t:Wr} {x y:Operand} {ty:Wr} {pos:String} {aft:Array Edge} (C:CU) (f:SF) (ho:ops[k]?=some ⟨none, .store t x y,ty,pos,aft,none⟩) (h:StS S w0 K B n ds a w) (hsz:zIV P t=some kk) {z:Bx} (hB:zE7 B c=some z) (hro:z.r=false)
  (hp: ∀v W,(Wd.fct (jM K B) x).p v W->v= pO z.b o) (hy: ∀v W,(Wd.fct (jM K B) y).p v W->f.p v W)
  (hv: ∀v W,f.p v W->v.cells.size=kk/\(∀u,u∈v.cells.toList->u.oneCell'=true)/\v.cells.toList.all zV=true/\ ∀cs,z.c.p cs W->o+kk<=cs.length/\C.p (qW cs o v.cells.toList) W)
  (fin: ∀w',w.grownBy w' (some z.b)->yO w w'->StS S w0 K (zEk B c C) n ds a w'->zA8 F m P ops Q (k+1) a w'):zA8 F m P ops Q k a w:=by
 obtain ⟨hz,hzc⟩:=zAi hB
 obtain ⟨cs,h1,h2,h3,h4,h5⟩:=h.bx.mem z hz
 have e1:=hp _ _ (h.fct x)
 obtain ⟨g1,g2,g3,g4⟩:=hv _ _ (hy _ _ (h.fct y))
 obtain ⟨g5,g6⟩:=g4 cs h4
 have hk:yO w (w.setRow z.b (qW cs o (a.eval y).cells.toList).toArray):=zBZ h3 (by simpa using h5)
 have hrun:(execOp a.eval ⟨none, .store t x y,ty,pos,aft,none⟩).run P w= .ok .skip (w.setRow z.b (qW cs o (a.eval y).cells.toList).toArray):=by
  unfold zIV at hsz
  cases hi:P.info? t with
  |none=>rw [hi] at hsz;cases hsz
  |some i=>
   rw [hi] at hsz
   simp only [Option.map_some,Option.some.injEq] at hsz
   have hr:=jW (P:=P) (a.eval y).cells.toList o cs w h3 (by simp;omega) g2
   have hs:=zAX (b:=z.b) (a.eval y).cells.toList o 0
   rw [Nat.add_zero] at hs
   simp [execOp,Instr.storeAt,Instr.sureAddr,e1,storeVar,sizeOf,typeInfo,hi,hsz,g1,hs,hr]
 refine j5 ho rfl ⟨fun f hf=>(by cases hf), ?_⟩
 rw [Oper.semAt_eq _ _ _ (fun _ e=>by cases e),hrun]
 refine fin _ (zBk w z.b _) hk (h.turn hB hro (zBk w z.b _) (setRow_heap w z.b cs.toArray _ z.e (0,0) h3) (C.us _ _ _ g6 hk) ?_)
 unfold qW
 simp only [List.all_append,Bool.and_eq_true]
 refine ⟨⟨zVF.2 fun u hu=>zVF.1 h5 u (List.mem_of_mem_take hu),g3⟩,zVF.2 fun u hu=>zVF.1 h5 u (List.mem_of_mem_drop hu)⟩
theorem zQD {k d:Nat} {x y:Operand} {t ty:Wr} {pos:String} {aft:Array Edge} {e:Wr} {z:Nat} {v:Wq} {Cs:List CU} (Ds:List CU) (h:StS S w0 K B n ds a w) (hr:zAs w w0.heap.size e z v Cs)
  (ho:ops[k]?=some ⟨some d, .call ⟨.builtin .append,#[x,y],#[t,t]⟩,ty,pos,aft,none⟩) (happ:zDH P t=some (e,z,true)) (hf:zAc K B n d=true) (hu:(K.all fun q=>zHG q.2)=true)
  (hx:a.eval x=v) (hy:(SF.row z Ds).p (a.eval y) w) (hD: ∀C,C∈Ds->CU.ok z C) (hsz:Cs.length+Ds.length<=140000000000) (hB: ∀q,q∈B->v.ownBlock≠some q.b)
  (fin: ∀v' a' w',zAs w' w0.heap.size e z v' (Cs++Ds)->(∀q,q∈B->v'.ownBlock≠some q.b)->StS S w0 ((d, .u (UF.eq v'))::K) B n ds a' w'->zA8 F m P ops Q (k+1) a' w'):zA8 F m P ops Q k a w:=by
 obtain ⟨v',w',hrun,g1,g2,g3⟩:=zFA (P:=P) (ty:=ty) happ hr hy hD hsz h.gr.size
 have hrun2:(execOp a.eval ⟨some d, .call ⟨.builtin .append,#[x,y],#[t,t]⟩,ty,pos,aft,none⟩).run P w= .ok (.value v') w':=by
  simp only [execOp,resolve,invoke,builtin,Sem.run_bind,Sem.run_pure,Result.andThen_ok,zVI,List.map_cons,List.map_nil,hx,hrun]
 refine j5 ho rfl ⟨fun f hf=>(by
  unfold Oper.about at hf
  simp [resolve,go_sem] at hf), ?_⟩
 rw [Oper.semAt_eq _ _ _ (fun _ e=>by cases e),hrun2]
 have hk:yO w w':=hr.keepU g2
 have s1:StS S w0 K B n ds a w':=by
  refine ⟨?_,h.size,h.nd,fun q hq=> ?_, ?_, ?_, .inl (yN hu)⟩
  ·cases hv:v.ownBlock with
   |none=>
    refine ⟨g2.os.trans h.gr.os,g2.tape.trans h.gr.tape,g2.output.trans h.gr.output,zVi h.gr.size g2.size,fun k hk1 hk2=> ?_⟩
    exact (g2.block k (zVy hk1 h.gr.size) (by rw [hv];simp)).trans (h.gr.block k hk1 hk2)
   |some g=>exact h.gr.grown (by rw [hv] at g2;exact g2) (.inl (hr.lt g hv).1)
  ·obtain ⟨f,ef⟩:=yN hu q hq
   have h1:=h.sl q hq
   rw [ef] at h1 ⊢
   exact f.us _ _ _ h1 hk
  ·refine wL hk B (fun q hq=> ?_) h.bx
   obtain ⟨_,_,hc,h3,_⟩:=h.bx.mem q hq
   exact g2.block _ (zVc.1 h3).1 fun e=>hB q hq e.symm
  ·refine h.mks.imp fun _ hm=>hm.keep fun q o hq ho=>(g2.block q (zVc.1 hq).1 fun e=> ?_).trans hq
   obtain ⟨_,cs,_,_,h3,_⟩:=zCs hr e.symm
   rw [h3] at hq
   cases hq
   cases ho
 refine fin v' _ w' g1 (fun q hq e=> ?_) (s1.set hf (zVt _ _) rfl)
 rcases g3 with g3|g3
 ·exact hB q hq (g3.symm.trans e)
 ·obtain ⟨_,_,_,h3,_⟩:=h.bx.mem q hq
  have h5:=(zVc.1 h3).1
  have h6:=g3.symm.trans e
  injection h6 with h6
  omega
end
def fVR (base:Nat) (e:Wr) (z:Nat) (v:Wq) (Cs:List CU):SF:=⟨fun u w=>u=v/\zAs w base e z v Cs,fun _ _ _ h hb=>⟨h.1,h.2.keepC (jJ hb)⟩⟩
def fIR (base:Nat) (e:Wr) (z:Nat) (i:Int) (v:Wq) (Cs:List CU):SF:=⟨fun u w=>u= .int .i64 i/\zAs w base e z v Cs,fun _ _ _ h hb=>⟨h.1,h.2.keepC (jJ hb)⟩⟩
structure CutS where
 acc:List V6
 row:List V2
 vo:Wq
 g:Nat
 cap:Nat
 f:Nat
theorem zFD {w0:Wp} {K:List (Nat×KF)} {B:List Bx} {n:Nat} {ds:List Deferred} {a:Act} {w:Wp} {P:Program} (h:St w0 K B n ds a w) {fn:Func} (v:Wq) {t:Nat} {e:Wr} {f:SF} (hr:fn.results=#[.cell t e]) (hsz:zCL P e=true) {y:Bx} (hB:zE7 B t=some y) (hv:w.heap[y.b]?=some (.cells #[v] y.e (0,0))) (hf: ∀w',Oth w0.heap.size w w'->f.p v w'):bodyPostM Fence.wide 0 P fn (Ret w0 f) .ret a w:=by
 obtain ⟨hy,rfl⟩:=zAi hB
 obtain ⟨cs,h1,h2,h3,h4,h5⟩:=h.bx.mem y hy
 have h0:a.tmps[y.t]?.getD undef= (pO y.b 0):=by rw [<-Array.getD_eq_getD_getElem?];exact h1
 refine h.resM (v:=v) (fun w' ho=> ?_) hf
 have hv':w.heap[y.b]?=some (.cells [v].toArray y.e (0,0)):=hv
 have hm:=zAK (zKM ho hv')
 have:=zAU hsz hm (u:=v) rfl
 simp [results,hr,asAddr,h0,this]
theorem zOq {W:Wp} {l:Wq} {ps:List V2} (hl:(SF.row 6 (pvs 1 ps)).p l W) (hp0:0<ps.length) (hn:ps.length<=12) (hT:Tab W):Calls prog 9 #[l] W (Ret W (wE W 38 18 (tns (zG6 ps)))):=by
  have hqb:=zKC dB hl
  refine zKa [(UF.eq l).tS] func9 rfl kI ⟨rfl,trivial⟩ fun a s=> ?_
  replace s:=s.renew [(0, .u (UF.eq l))] (fmz ⟨.inr ⟨_,rfl, .head _⟩,fnz⟩)
  refine zVb ?_
  refine zB 0 [] hmix s kI
    zE fun a w1 s=> ?_
  refine yE (wB [.slice none 0 0]) (cs:= [.slice none 0 0]) kI rfl s kI (fun W=>rfl) rfl fun b2 a w s=> ?_
  refine zA rfl ?_
  refine (wpIn_wide (n:=0)).2 (wp_scope_straight ((wpIn_wide (n:=0)).1 ?_))
  refine zVb ?_
  refine yD 2 ((9, .s (UF.eq l).tS)::(10, .s (wE W 30 6 (pns (zA0 ps)))):: []) hmix s kI
    (oc zC<|oc (zH zD zS6 (fun u0 X hb (h0:u0=l)=>(zJS (by rw [show u0=l from h0];exact (SF.row 6 (pvs 1 ps)).st _ _ _ hl (s.up hb)) hp0 hn (hT.below (s.up hb))).mono (wD (qQ (s.up hb).size))))<|zE) fun a w3 s hr=> ?_
  obtain ⟨v10,e10⟩: ∃v,a.tmps.getD 10 undef=v:=⟨_,rfl⟩
  have hR10:zAs w3 W.heap.size 30 6 v10 (pns (zA0 ps)):=e10▸hr (_,_) mz1
  obtain ⟨g0,cap0,ev,hg0,hRR⟩:=zQM hR10 (by rw [zAn,zIC];exact hp0)
  rw [zAn] at ev
  subst ev
  replace s:=s.learn 10 _ e10
  replace s:=s.keepK [(10, .u (UF.eq (.slice (some ⟨g0,0,none⟩) (zA0 ps).length cap0)))] (fmz ⟨.head _,fnz⟩)
  have s3:=s
  obtain ⟨cs2,hb2,hc2,_⟩:=s.boxAt (c:=2) rfl
  obtain rfl:cs2= [.slice none 0 0]:=hc2
  replace s:=s.move (fun q=>q=b2) (fun q ⟨x,hx,e,_⟩=>by obtain rfl:=zVh.1 hx;exact e.symm) kI
  have sM:=s
  refine yE (CU.len 1) (cs:= [.slice none 0 0]) kI rfl s kI (fun W=>rfl) rfl fun b3 a w s=> ?_
  refine jH (c:=3) (o:=0) (kk:=1) (wB [.slice (some ⟨g0,0,none⟩) (zA0 ps).length cap0]) ((UF.eq (.slice (some ⟨g0,0,none⟩) (zA0 ps).length cap0)).tS) rfl s kI rfl rfl (fun _ _ h=>h.1) iiz (zEK fun cs W h=>h) fun a w4 s=> ?_
  refine zA rfl ?_
  have hKU:yO w3 w4:=y8 (s.gr.sub (fun q hq=>⟨_, .head _,hq.symm,rfl⟩)) sM.bx
  have hne2:g0≠b2:=jC hRR.at.choose_spec hb2 (show (30:Wr)≠33 by decide)
  have hRR4:=hRR.keep (s.gr.block g0 (zVc.1 hRR.at.choose_spec).1 hne2) hKU
  obtain ⟨cs2',hb2',hc2',_⟩:=s.boxAt (c:=2) rfl
  obtain rfl:cs2'= [.slice none 0 0]:=hc2'
  obtain ⟨cs3,hb3,hc3,_⟩:=s.boxAt (c:=3) rfl
  obtain rfl:cs3= [.slice (some ⟨g0,0,none⟩) (zA0 ps).length cap0]:=hc3
  have hsz4:=s.gr.size
  have hW3:=s3.gr.size
  replace s:=wM s3 s (fun q hq=> .inr (by rw [hq];exact s3.inB_new ⟨_, .head _,rfl,rfl⟩)) kI
  have hM0:CutM W.heap.size b2 b3 [] (zA0 ps) (.slice none 0 0) g0 cap0 w4:=⟨zVi hW3 hsz4,hb2',hb3,zAs.nil _ _ _ _,hg0,hRR4⟩
  have hqN: ∀p,p∈zA0 ps->QB p.1 1/\QB p.2 1:=fun p hp=>hqb p ((zM6 p).1 hp)
  have hNl:=zIC ps
  replace s:=s.keepK [] fnz
  replace s:StS noS W [] [⟨3,22,CU.len 1,b3,false⟩,⟨2,33,CU.len 1,b2,false⟩] f9.ntmps [] a w4:=(s.weakB 3 (CU.len 1) rfl (yQ kI) (fun cs W h=>by rw [show cs=_ from h];rfl)).weakB 2 (CU.len 1) rfl (yQ kI) (fun cs W h=>by rw [show cs=_ from h];rfl)
  have few:(zA0 ps).length<=12:=by omega
  refine zVb ?_
  refine wpIn_label ?_
  refine zVb ?_
  refine zVe ?_
  refine zCw (fun (x:CutS) a w=> ∃ds,CutI (zA0 ps).length (zA0 ps) x.acc x.row x.f/\0<x.f/\0<x.row.length/\(∀p,p∈x.row->QB p.1 1/\QB p.2 1)/\CutM W.heap.size b2 b3 x.acc x.row x.vo x.g x.cap w/\StS noS W [] [⟨3,22,CU.len 1,b3,false⟩,⟨2,33,CU.len 1,b2,false⟩] f9.ntmps ds a w) (fun x=>x.f) ⟨[],zA0 ps, .slice none 0 0,g0,cap0,(zA0 ps).length⟩ ⟨[],CutI.start few,by show 0<(zA0 ps).length;omega,by show 0<(zA0 ps).length;omega,hqN,hM0,s⟩ fun x a w hx=> ?_
  obtain ⟨ds,hI,hf0,hr0,hqx,hM,s⟩:=hx
  have hrow:(SF.row 6 (pns x.row)).p (.slice (some ⟨x.g,0,none⟩) x.row.length x.cap) w:=(hM.rr.toN lr (zAn _).symm).row
  have hTw:=hT.below s.below
  have hsM:=s.is2 hM.h3 hM.h2
  refine zVb ?_
  refine zVb ?_
  refine yD 3 ((11, .s (fCM W.heap.size b2 b3 x.acc x.row x.vo x.g x.cap))::(12, .s (uI (x.row.length:Int)).tS)::(13, .u (uB (decide ((x.row.length:Int)>3)))):: []) hmix hsM kI
    (oc (zBA (v:=(.slice (some ⟨x.g,0,none⟩) x.row.length x.cap)) (f:=fCM W.heap.size b2 b3 x.acc x.row x.vo x.g x.cap) kI (fun _ _ h=>h.2) ⟨rfl,hM⟩)<|oc (zCa kI (fun v W h=>⟨_,_,_,h.1,rfl⟩))<|oc (z5 .i64 (x.row.length:Int) 3 (decide ((x.row.length:Int)>3)) iiz iiz rfl rfl)<|zE) fun a w1 s hr=> ?_
  have hM1:=(hr (_,_) (.head _)).2
  refine zA rfl ?_
  refine StS.cond s (decide ((x.row.length:Int)>3)) iiz (fun e=> ?_) (fun e=> ?_)
  . have h4:3<x.row.length:=by have:=zVl e;omega
    refine zVd ?_
    refine zVe ?_
    refine zVb ?_
    refine zVb ?_
    replace s:=s.keepK [] fnz
    have hTw1:=hT.below s.below
    have hrow1:(SF.row 6 (pns x.row)).p (.slice (some ⟨x.g,0,none⟩) x.row.length x.cap) w1:=(hM1.rr.toN lr (zAn _).symm).row
    have hbs1:=s.gr.size
    refine yD 2 ((14, .s (fCM W.heap.size b2 b3 x.acc x.row x.vo x.g x.cap))::(15, .s (zLt w1 67 22 (wB [(.slice (some ⟨x.g,0,none⟩) x.row.length x.cap)]))):: []) hmix s kI
      (oc (zBA (v:=(.slice (some ⟨x.g,0,none⟩) x.row.length x.cap)) (f:=fCM W.heap.size b2 b3 x.acc x.row x.vo x.g x.cap) kI (fun _ _ h=>h.2) ⟨rfl,hM1⟩)<|oc (zH zD zRI (fun u0 X hb (h0:(fCM W.heap.size b2 b3 x.acc x.row x.vo x.g x.cap).p u0 X)=>by rw [h0.1];exact (zE9 ⟨rfl,rfl⟩).mono (wD (zGT hb.size))))<|zE) fun a w2 s hr=> ?_
    have hM2:=(hr (_,_) (.head _)).2
    obtain ⟨bc,csc,ec,hbc1,hbc2,hbc3,hbc4⟩:=hr (_,_) mz1
    refine zA rfl ?_
    refine zVe ?_
    obtain rfl:csc= [(.slice (some ⟨x.g,0,none⟩) x.row.length x.cap)]:=hbc3
    replace s:=s.learn 15 (.func (.func 67) #[] #[pO bc 0]) ec
    replace s:=s.keepK [(15, .u (UF.eq (.func (.func 67) #[] #[pO bc 0])))] (fmz ⟨.head _,fnz⟩)
    replace s:StS noS W [(15, .u (UF.eq (.func (.func 67) #[] #[pO bc 0])))] [⟨3,22,CU.len 1,b3,false⟩,⟨2,33,CU.len 1,b2,false⟩] f9.ntmps ds a w2:=(s.weakB 3 (CU.len 1) rfl (yQ kI) (fun cs W h=>by rw [show cs=_ from h];rfl)).weakB 2 (CU.len 1) rfl (yQ kI) (fun cs W h=>by rw [show cs=_ from h];rfl)
    have hb2l:b2<w1.heap.size:=(zVc.1 hM1.h2).1
    have hb3l:b3<w1.heap.size:=(zVc.1 hM1.h3).1
    have hgl:x.g<w1.heap.size:=(zVc.1 hM1.rr.at.choose_spec).1
    have hinB: ∀q,inB ([⟨3,22,CU.len 1,b3,false⟩,⟨2,33,CU.len 1,b2,false⟩]) q->q=b3∨q=b2:=fun q ⟨y,hy,e,_⟩=>by
      rcases zVg.1 hy with rfl|hy
      . exact .inl e.symm
      . obtain rfl:=zVh.1 hy
        exact .inr e.symm
    have hTw2:=hT.below s.below
    have hrow2:(SF.row 6 (pns x.row)).p (.slice (some ⟨x.g,0,none⟩) x.row.length x.cap) w2:=(hM2.rr.toN lr (zAn _).symm).row
    refine zGj (N:=x.row.length) (fun k=> [⟨3,22,CU.len 1,b3,false⟩,⟨2,33,CU.len 1,b2,false⟩]) ([⟨3,22,CU.len 1,b3,false⟩,⟨2,33,CU.len 1,b2,false⟩]) (.exit 1) (fun k=> [(16, .u (uI ((k:Nat):Int))),(17, .u (fTN (zAP x.row k)))]) s iiz (enters_of func67 kI rfl) (M:=fun q=>q=x.g) (fun q hq=>by
        obtain ⟨cur,c1,c2,c3,c4,c5,c6⟩:=hM2.rr
        rw [hq]
        exact ⟨hM2.gb,(zVc.1 c1).1,cur,_,_,c1,c5⟩)
      (zFb (b:=bc) (g:=x.g) (cap:=x.cap) (ps:=x.row) hbc2 hrow2 rfl (fun hc=>by rcases hinB _ hc with e|e<;>omega) (fun hc=>by have:bc=x.g:=hc;omega) (by have:=hI.few;omega))
      (X:=fun k R W'=>CutM W.heap.size b2 b3 x.acc x.row x.vo x.g x.cap W'/\ ∀j,j<k->(zBo (zAP x.row j)==0)=false)
      (XZ:=fun W'=> ∃i,zGS x.row=some i/\CutM W.heap.size b2 b3 x.acc (x.row.eraseIdx i) x.vo x.g x.cap W')
      (fun k R A B hkc h=>⟨h.1.keepC hkc,h.2⟩) (fun A B hkc ⟨i,h1,h2⟩=>⟨i,h1,h2.keepC hkc⟩) ⟨hM2,fun j hj=>absurd hj (zVD _)⟩ (fun k=>rfl) ?_ rfl rfl rfl (fun k=>rfl) rfl (fun l_ k R xs WR hk hXk hMk hRr hsz so s=> ?_) (fun D WD R hXN s=> ?_) (fun D WD hz s=> ?_)
    . intro k q hq
      simp only [zVg,zVq,zVr] at hq
      rcases hq with rfl|rfl
      . exact .inr ⟨0,_,rfl,rfl,rfl⟩
      . exact .inr ⟨1,_,rfl,rfl,rfl⟩
    . obtain ⟨hMx,hno⟩:=hXk
      have hTR:=hT.below so.below
      replace s:=s.is2 hMx.h3 hMx.h2
      generalize ({ tmps:=_,defers:= [] }:Act)=a at s ⊢
      replace s:=s.move (fun q=>q=b3∨q=b2) (fun q hq=>by
        obtain ⟨y,hy,e,_⟩:=hq
        rcases zVg.1 hy with rfl|hy
        . exact .inl e.symm
        . obtain rfl:=zVh.1 hy
          exact .inr e.symm) kI
      have sR:=s
      refine zVb ?_
      refine zB 1 ((4, .u (uI (k:Int))):: []) hmix s kI
        (oc zG<|zE) fun a w5 s=> ?_
      refine zA rfl ?_
      refine zB 0 [] hmix s kI
        zE fun a w6 s=> ?_
      have h5sz:=s.gr.size
      refine zFt (CU.len 18) (cs:= [.bool false, .slice none 0 0, .slice none 0 0, .bool false, .slice none 0 0, .slice none 0 0, .bool false, .slice none 0 0, .slice none 0 0, .bool false, .slice none 0 0, .slice none 0 0, .bool false, .slice none 0 0, .slice none 0 0, .bool false, .slice none 0 0, .slice none 0 0]) kI rfl s kI (fun W=>rfl) rfl fun b5 a w hb5n s=> ?_
      replace hb5n:=zVi h5sz hb5n
      refine zU (CU.agg (fTN (zAP x.row k))) ((fTN (zAP x.row k)).tS) rfl s kI rfl rfl rfl iiz iiz zFn fun a w7 s=> ?_
      refine zA rfl ?_
      have hszR:=s.gr.size
      have hKU1:yO WR w7:=y8 (s.gr.sub (fun q hq=>by
        rcases hq with hq|hq
        . exact ⟨_, .head _,hq.symm,rfl⟩
        . exact ⟨_,mz1,hq.symm,rfl⟩)) sR.bx
      obtain ⟨ca,ha1,ha2,_⟩:=s.boxAt (c:=3) rfl
      obtain rfl:ca= [(.slice (some ⟨x.g,0,none⟩) x.row.length x.cap)]:=ha2
      obtain ⟨cb,hd1,hd2,_⟩:=s.boxAt (c:=2) rfl
      obtain rfl:cb= [x.vo]:=hd2
      have hne: ∀{g:Nat} {cur:Array Wq} {e:Wr},WR.heap[g]?=some (.cells cur e (0,0))->e≠22->e≠33-> ¬(g=b3∨g=b2):=fun h1 h2 h3 hq=>by
        rcases hq with hq|hq
        . exact jC h1 hMx.h3 h2 hq
        . exact jC h1 hMx.h2 h3 hq
      obtain ⟨cg,hcg⟩:=hMx.rr.at
      have hg7:w7.heap[x.g]?=WR.heap[x.g]?:=s.gr.block x.g (zVc.1 hcg).1 (hne hcg dB dB)
      have hM7:CutM W.heap.size b2 b3 x.acc x.row x.vo x.g x.cap w7:=⟨zVi hMx.sz hszR,hd1,ha1,hMx.ro.keep (fun g hg=>by
        obtain ⟨cur,hcur⟩:=qH hMx.ro hg
        exact s.gr.block g (zVc.1 hcur).1 (hne hcur dB dB)) hKU1,hMx.gb,hMx.rr.keep hg7 hKU1⟩
      have hb3W:W.heap.size<=b3:=so.inB_new ⟨_, .head _,rfl,rfl⟩
      have hb2W:W.heap.size<=b2:=so.inB_new ⟨_,mz1,rfl,rfl⟩
      have hbW7:Below W.heap.size W w7:=⟨s.gr.os.trans so.gr.os,s.gr.tape.trans so.gr.tape,s.gr.output.trans so.gr.output,zVi so.gr.size s.gr.size,fun q hq=>(s.gr.block q (zVy hq so.gr.size) (fun h=>by rcases h with h|h<;>omega)).trans (so.gr.block q hq (fun h=>h))⟩
      have hT7:=hT.below hbW7
      refine ⟨s.gr.sub (fun q hq=> .inl (by
        rcases hq with hq|hq
        . exact ⟨_, .head _,hq.symm,rfl⟩
        . exact ⟨_,mz1,hq.symm,rfl⟩)),fun W2 hkc hcell hW2=> ?_⟩
      have hM8:=hM7.keepC hkc
      have hT8:Tab W2:=fun j hj=>(hcell _).trans (hT7 j hj)
      have hb5l:WR.heap.size<=b5:=hb5n
      replace s:=hW2 _ _ (s.wider (fun q=>inB ([⟨3,22,CU.len 1,b3,false⟩,⟨2,33,CU.len 1,b2,false⟩]) q∨WR.heap.size<=q∨R q∨q=x.g) (fun q hq=> .inl (by
        rcases hq with hq|hq
        . exact ⟨_, .head _,hq.symm,rfl⟩
        . exact ⟨_,mz1,hq.symm,rfl⟩)) kI)
      have sW:=s
      replace s:=s.move (fun q=>q=b3∨q=b2∨q=b5) (fun q hq=>by
        obtain ⟨y,hy,e,_⟩:=hq
        rcases zVg.1 hy with rfl|hy
        . exact .inr (.inr e.symm)
        . rcases zVg.1 hy with rfl|hy
          . exact .inl e.symm
          . obtain rfl:=zVh.1 hy
            exact .inr (.inl e.symm)) kI
      have sN:=s
      refine zVe ?_
      refine zVb ?_
      refine zB 3 ((18, .s (fTN (zAP x.row k)).tS)::(19, .s (uI (zBo (zAP x.row k))).tS)::(20, .u (uB (zBo (zAP x.row k)==0))):: []) hmix s kI
        (oc (zR (f:=fTN (zAP x.row k)) 18 kI (hz:=zGe _))<|oc (zH zCl zP0 (fun u0 X hb (h0:(fTN (zAP x.row k)).p u0 X)=>zF5 (m:=1) (zMc (zOK hqx hk) h0) dB dB (hT8.below hb)))<|oc (z5 .i64 (zBo (zAP x.row k)) 0 (zBo (zAP x.row k)==0) iiz iiz rfl rfl)<|zE) fun a w9 s=> ?_
      refine zA rfl ?_
      have hKU9:yO W2 w9:=y8 (s.gr.sub (fun q hq=>by
        rcases hq with hq|hq|hq
        . exact ⟨_,mz1,hq.symm,rfl⟩
        . exact ⟨_,mz2,hq.symm,rfl⟩
        . exact ⟨_, .head _,hq.symm,rfl⟩)) sN.bx
      have hne9: ∀{g:Nat} {cur:Array Wq} {e:Wr},W2.heap[g]?=some (.cells cur e (0,0))->g<WR.heap.size->e≠22->e≠33-> ¬(g=b3∨g=b2∨g=b5):=fun h1 h0 h2 h3 hq=>by
        rcases hq with hq|hq|hq
        . exact jC h1 hM8.h3 h2 hq
        . exact jC h1 hM8.h2 h3 hq
        . omega
      obtain ⟨cg8,hcg8⟩:=hM8.rr.at
      have hgR:x.g<WR.heap.size:=(zVc.1 hcg).1
      have hg9:w9.heap[x.g]?=W2.heap[x.g]?:=s.gr.block x.g (zVc.1 hcg8).1 (hne9 hcg8 hgR dB dB)
      have hroR: ∀g,x.vo.ownBlock=some g->g<WR.heap.size:=fun g hg=>by
        obtain ⟨cur,hcur⟩:=qH hMx.ro hg
        exact (zVc.1 hcur).1
      obtain ⟨cc,hc1,hc2,_⟩:=s.boxAt (c:=3) rfl
      obtain rfl:cc= [(.slice (some ⟨x.g,0,none⟩) x.row.length x.cap)]:=hc2
      obtain ⟨cd,hd3,hd4,_⟩:=s.boxAt (c:=2) rfl
      obtain rfl:cd= [x.vo]:=hd4
      have hM9:CutM W.heap.size b2 b3 x.acc x.row x.vo x.g x.cap w9:=⟨zVi hM8.sz s.gr.size,hd3,hc1,hM8.ro.keep (fun g hg=>by
        obtain ⟨cur,hcur⟩:=qH hM8.ro hg
        exact s.gr.block g (zVc.1 hcur).1 (hne9 hcur (hroR g hg) dB dB)) hKU9,hM8.gb,hM8.rr.keep hg9 hKU9⟩
      have hsame:w9.heap[x.g]?=w2.heap[x.g]?:=hg9.trans ((hkc.2 _ _ (hg7.trans hcg) rfl).trans (hcg.symm.trans (hMk x.g rfl)))
      refine StS.cond s (zBo (zAP x.row k)==0) iiz (fun e=> ?_) (fun e=> ?_)
      . have hflat:zGS x.row=some k:=zLn hk hno e
        have hlk:k<12:=by have:=hI.few;omega
        replace s:=s.keepK [(4, .u (uI (k:Int)))] (fmz ⟨by repeat (first|exact List.Mem.head _|apply List.Mem.tail),fnz⟩)
        refine zVb ?_
        refine zB 4 ((21, .u (UF.eq (.slice (some ⟨x.g,0,none⟩) x.row.length x.cap)))::(22, .u (uI (k:Int)))::(23, .u (uI (k:Int)))::(24, .u (uI ((k+1:Nat):Int))):: []) hmix s kI
          (oc (yW (C:=(wB [.slice (some ⟨x.g,0,none⟩) x.row.length x.cap]).cf) kI (fun _ _ h=>h.2) zAq)<|oc zC<|oc zC<|oc (yX .i64 (k:Int) 1 ((k+1:Nat):Int) iiz iiz (wrap64 _ _ oP oP))<|zE) fun a w10 s=> ?_
        have hKU10:yO W2 w10:=y8 (s.gr.sub (fun q hq=>by
          rcases hq with hq|hq|hq
          . exact ⟨_,mz1,hq.symm,rfl⟩
          . exact ⟨_,mz2,hq.symm,rfl⟩
          . exact ⟨_, .head _,hq.symm,rfl⟩)) sN.bx
        have hg10:w10.heap[x.g]?=W2.heap[x.g]?:=s.gr.block x.g (zVc.1 hcg8).1 (hne9 hcg8 hgR dB dB)
        have hRR10:=hM8.rr.keep hg10 hKU10
        have hRO10:=hM8.ro.keep (fun g hg=>by
          obtain ⟨cur,hcur⟩:=qH hM8.ro hg
          exact s.gr.block g (zVc.1 hcur).1 (hne9 hcur (hroR g hg) dB dB)) hKU10
        have hsz10:=s.gr.size
        obtain ⟨cc',hc1',hc2',_⟩:=s.boxAt (c:=3) rfl
        obtain ⟨cd',hd3',hd4',_⟩:=s.boxAt (c:=2) rfl
        replace s:=wM sW s (fun q hq=>by
          rcases hq with rfl|rfl|rfl
          . exact .inl (.inl ⟨_, .head _,rfl,rfl⟩)
          . exact .inl (.inl ⟨_,mz1,rfl,rfl⟩)
          . exact .inl (.inr (.inl hb5l))) kI
        have hv21:=s.val (.head _)
        have hv22:=s.val mz1
        have hv24:=s.val mz3
        have hc:=zNW (W:=w10) (g:=x.g) (cap:=x.cap) (i:=k) (v:=a.tmps.getD 21 undef) (u:=a.tmps.getD 22 undef) (x:=a.tmps.getD 24 undef) hRR10 (zN8 _) (by rw [zAn];exact hk) (by rw [zAn];have:=hI.few;omega) (by rw [zAn];exact hv21) hv22 hv24
        have hargs:(#[.tmp 21, .tmp 22, .tmp 24]:Array Operand).map a.eval=#[a.tmps.getD 21 undef,a.tmps.getD 22 undef,a.tmps.getD 24 undef]:=by
          rw [zVI]
          simp [Act.eval]
        obtain ⟨cg10,hcg10⟩:=hRR10.at
        have hnb3:b3≠x.g:=fun h=>jC hcg10 hc1' (show (30:Wr)≠22 by decide) h.symm
        have hnb2:b2≠x.g:=fun h=>jC hcg10 hd3' (show (30:Wr)≠33 by decide) h.symm
        have hnb5:b5≠x.g:=fun h=>by omega
        refine zJT (g:=x.g) zCl zRH s (.inl (.inr (.inr (.inr rfl)))) rfl kI kI (fun w' hw=>hRR10.keepU hw) (fmz ⟨hnb5,fmz ⟨hnb3,fmz ⟨hnb2,fnz⟩⟩⟩) hargs hc fun a w11 hRR11 hgb11 s=> ?_
        have hel:(x.row.eraseIdx k).length=x.row.length - 1:=zVo hk
        rw [zGB] at hRR11
        rw [zAn, <-hel] at s
        have sA:=s
        replace s:=s.move (fun q=>q=b3∨q=b2∨q=b5) (fun q hq=>by
          obtain ⟨y,hy,e,_⟩:=hq
          rcases zVg.1 hy with rfl|hy
          . exact .inr (.inr e.symm)
          . rcases zVg.1 hy with rfl|hy
            . exact .inl e.symm
            . obtain rfl:=zVh.1 hy
              exact .inr (.inl e.symm)) kI
        have sN2:=s
        refine jH (c:=3) (o:=0) (kk:=1) (wB [.slice (some ⟨x.g,0,none⟩) (x.row.eraseIdx k).length x.cap]) ((UF.eq (.slice (some ⟨x.g,0,none⟩) (x.row.eraseIdx k).length x.cap)).tS) rfl s kI rfl rfl (fun _ _ h=>h.1) iiz (zEK fun cs W h=>by rw [show cs=_ from h];rfl) fun a w12 s=> ?_
        refine zA rfl ?_
        have hKU12:yO w11 w12:=y8 (s.gr.sub (fun q hq=>by
          rcases hq with hq|hq|hq
          . exact ⟨_,mz1,hq.symm,rfl⟩
          . exact ⟨_,mz2,hq.symm,rfl⟩
          . exact ⟨_, .head _,hq.symm,rfl⟩)) sN2.bx
        obtain ⟨cg11,hcg11⟩:=hRR11.at
        have hRR12:=hRR11.keep (s.gr.block x.g (zVc.1 hcg11).1 (fun hq=>by
          rcases hq with hq|hq|hq
          . exact hnb3 hq.symm
          . exact hnb2 hq.symm
          . exact hnb5 hq.symm)) hKU12
        have hRO11:=hRO10.keep (fun g hg=>by
          obtain ⟨cur,hcur⟩:=qH hRO10 hg
          exact hgb11.block g (hRO10.lt g hg).2 (fun e=>jC hcur hcg10 (show (38:Wr)≠30 by decide) (by injection e))) (hRR10.keepU hgb11)
        have hRO12:=hRO11.keep (fun g hg=>by
          obtain ⟨cur,hcur⟩:=qH hRO10 hg
          exact s.gr.block g (hRO11.lt g hg).2 (fun hq=>by
            rcases hq with hq|hq|hq
            . exact jC hcur hc1' (show (38:Wr)≠22 by decide) hq
            . exact jC hcur hd3' (show (38:Wr)≠33 by decide) hq
            . have:=hroR g hg;omega)) hKU12
        have hsz12:=s.gr.size
        have hsz11:=hgb11.size
        have hsz8:=hM8.sz
        obtain ⟨ce,he1,he2,_⟩:=s.boxAt (c:=3) rfl
        obtain rfl:ce= [.slice (some ⟨x.g,0,none⟩) (x.row.eraseIdx k).length x.cap]:=he2
        obtain ⟨cf,hf1,hf2,_⟩:=s.boxAt (c:=2) rfl
        obtain rfl:cf= [x.vo]:=hf2
        replace s:=wM sA s (fun q hq=>by
          rcases hq with rfl|rfl|rfl
          . exact .inl (.inl ⟨_, .head _,rfl,rfl⟩)
          . exact .inl (.inl ⟨_,mz1,rfl,rfl⟩)
          . exact .inl (.inr (.inl hb5l))) kI
        replace s:=s.popB
        refine zVk ?_
        exact ⟨rfl,((s.keepK [] fnz).weakB 3 (CU.len 1) rfl (yQ kI) (fun cs W h=>by rw [show cs=_ from h];rfl)).weakB 2 (CU.len 1) rfl (yQ kI) (fun cs W h=>by rw [show cs=_ from h];rfl),k,hflat,⟨by omega,hf1,he1,hRO12,hM8.gb,hRR12⟩⟩
      . have hno': ∀j,j<k+1->(zBo (zAP x.row j)==0)=false:=fun j hj=>by
          rcases zVK.1 hj with h|rfl
          . exact hno j h
          . exact e
        replace s:=wM sW s (fun q hq=>by
          rcases hq with rfl|rfl|rfl
          . exact .inl (.inl ⟨_, .head _,rfl,rfl⟩)
          . exact .inl (.inl ⟨_,mz1,rfl,rfl⟩)
          . exact .inl (.inr (.inl hb5l))) kI
        replace s:=s.popB
        refine zVd ?_
        refine ⟨((s.keepK [] fnz).weakB 3 (CU.len 1) rfl (yQ kI) (fun cs W h=>by rw [show cs=_ from h];rfl)).weakB 2 (CU.len 1) rfl (yQ kI) (fun cs W h=>by rw [show cs=_ from h];rfl),fun _=>False,fun q hq=>hq.elim,fun q hq=>hq.elim,⟨hM9,hno'⟩,fun q hq=> ?_⟩
        rw [hq]
        exact hsame
    . obtain ⟨hMd,hnoF⟩:=hXN
      have hfl:zGS x.row=none:=zF4 hnoF
      replace s:=s.is2 hMd.h3 hMd.h2
      generalize ({ a with defers:=mark D::a.defers }:Act)=a at s ⊢
      replace s:=s.keepK [] fnz
      refine zVb ?_
      refine zVb ?_
      have hTd:=hT.below s.below
      have hbsd:=s.gr.size
      refine yD 2 ((26, .s (fCM W.heap.size b2 b3 x.acc x.row x.vo x.g x.cap))::(27, .s (zLt WD 67 22 (wB [(.slice (some ⟨x.g,0,none⟩) x.row.length x.cap)]))):: []) hmix s kI
        (oc (zBA (v:=(.slice (some ⟨x.g,0,none⟩) x.row.length x.cap)) (f:=(fCM W.heap.size b2 b3 x.acc x.row x.vo x.g x.cap)) kI (fun _ _ h=>h.2) ⟨rfl,hMd⟩)<|oc (zH zD zRI (fun u0 X hb (h0:(fCM W.heap.size b2 b3 x.acc x.row x.vo x.g x.cap).p u0 X)=>by rw [h0.1];exact (zE9 ⟨rfl,rfl⟩).mono (wD (zGT hb.size))))<|zE) fun a w3 s hr=> ?_
      have hM3:=(hr (_,_) (.head _)).2
      obtain ⟨be,cse,ee,hbe1,hbe2,hbe3,hbe4⟩:=hr (_,_) mz1
      refine zA rfl ?_
      refine zVe ?_
      obtain rfl:cse= [(.slice (some ⟨x.g,0,none⟩) x.row.length x.cap)]:=hbe3
      replace s:=s.learn 27 (.func (.func 67) #[] #[pO be 0]) ee
      replace s:=s.keepK [(27, .u (UF.eq (.func (.func 67) #[] #[pO be 0])))] (fmz ⟨.head _,fnz⟩)
      replace s:StS noS W [(27, .u (UF.eq (.func (.func 67) #[] #[pO be 0])))] [⟨3,22,CU.len 1,b3,false⟩,⟨2,33,CU.len 1,b2,false⟩] f9.ntmps (mark D::ds) a w3:=(s.weakB 3 (CU.len 1) rfl (yQ kI) (fun cs W h=>by rw [show cs=_ from h];rfl)).weakB 2 (CU.len 1) rfl (yQ kI) (fun cs W h=>by rw [show cs=_ from h];rfl)
      have hb2d:b2<WD.heap.size:=(zVc.1 hMd.h2).1
      have hb3d:b3<WD.heap.size:=(zVc.1 hMd.h3).1
      have hgd:x.g<WD.heap.size:=(zVc.1 hMd.rr.at.choose_spec).1
      have hTw3:=hT.below s.below
      have hrow3:(SF.row 6 (pns x.row)).p (.slice (some ⟨x.g,0,none⟩) x.row.length x.cap) w3:=(hM3.rr.toN lr (zAn _).symm).row
      refine zGj (N:=x.row.length) (fun k=> [⟨3,22,CU.len 1,b3,false⟩,⟨2,33,CU.len 1,b2,false⟩]) ([⟨3,22,CU.len 1,b3,false⟩,⟨2,33,CU.len 1,b2,false⟩]) (.exit 1) (fun k=> [(28, .u (uI ((k:Nat):Int))),(29, .u (fTN (zAP x.row k)))]) s iiz (enters_of func67 kI rfl) (M:=fun q=>q=x.g∨x.vo.ownBlock=some q) (fun q hq=>by
          rcases hq with hq|hq
          . obtain ⟨cur,c1,c2,c3,c4,c5,c6⟩:=hM3.rr
            rw [hq]
            exact ⟨hM3.gb,(zVc.1 c1).1,cur,_,_,c1,c5⟩
          . obtain ⟨c1,c2,c3,c4,c5,c6⟩:=zCs hM3.ro hq
            exact ⟨(hM3.ro.lt q hq).1,c1,c2,c3,c4,c5,c6⟩)
        (zFb (b:=be) (g:=x.g) (cap:=x.cap) (ps:=x.row) hbe2 hrow3 (.inl rfl) (fun hc=>by rcases hinB _ hc with e|e<;>omega) (fun hc=>by
          rcases hc with hc|hc
          . omega
          . have:=(hMd.ro.lt be hc).2;omega) (by have:=hI.few;omega))
        (X:=fun k R W'=>CutM W.heap.size b2 b3 x.acc x.row x.vo x.g x.cap W'/\ ∀j,j<k->zNt x.row j=false)
        (XZ:=fun W'=> ∃i vo',zP4 x.row=some i/\CutM W.heap.size b2 b3 (x.acc++ [zAP x.row i]) (x.row.eraseIdx i) vo' x.g x.cap W')
        (fun k R A B hkc h=>⟨h.1.keepC hkc,h.2⟩) (fun A B hkc ⟨i,vo',h1,h2⟩=>⟨i,vo',h1,h2.keepC hkc⟩) ⟨hM3,fun j hj=>absurd hj (zVD _)⟩ (fun k=>rfl) ?_ rfl rfl rfl (fun k=>rfl) rfl (fun l_ k R xs WR hk hXk hMk hRr hsz so s=> ?_) (fun D2 WD2 R2 hXN2 s=> ?_) (fun D2 WD2 hz s=> ?_)
      . intro k q hq
        simp only [zVg,zVq,zVr] at hq
        rcases hq with rfl|rfl
        . exact .inr ⟨0,_,rfl,rfl,rfl⟩
        . exact .inr ⟨1,_,rfl,rfl,rfl⟩
      . obtain ⟨hMx,hno⟩:=hXk
        have hTR:=hT.below so.below
        replace s:=s.is2 hMx.h3 hMx.h2
        generalize ({ tmps:=_,defers:= [] }:Act)=a at s ⊢
        replace s:=s.move (fun q=>q=b3∨q=b2) (fun q hq=>by
          obtain ⟨y,hy,e,_⟩:=hq
          rcases zVg.1 hy with rfl|hy
          . exact .inl e.symm
          . obtain rfl:=zVh.1 hy
            exact .inr e.symm) kI
        have sR:=s
        refine zVb ?_
        refine zB 1 ((6, .u (uI (k:Int))):: []) hmix s kI
          (oc zG<|zE) fun a w5 s=> ?_
        refine zA rfl ?_
        refine zB 0 [] hmix s kI
          zE fun a w6 s=> ?_
        have h5sz:=s.gr.size
        refine zFt (CU.len 18) (cs:= [.bool false, .slice none 0 0, .slice none 0 0, .bool false, .slice none 0 0, .slice none 0 0, .bool false, .slice none 0 0, .slice none 0 0, .bool false, .slice none 0 0, .slice none 0 0, .bool false, .slice none 0 0, .slice none 0 0, .bool false, .slice none 0 0, .slice none 0 0]) kI rfl s kI (fun W=>rfl) rfl fun b5 a w hb5n s=> ?_
        replace hb5n:=zVi h5sz hb5n
        refine zU (CU.agg (fTN (zAP x.row k))) ((fTN (zAP x.row k)).tS) rfl s kI rfl rfl rfl iiz iiz zFn fun a w7 s=> ?_
        refine zA rfl ?_
        have hszR:=s.gr.size
        have hbl7:=s.gr
        have hKU1:yO WR w7:=y8 (s.gr.sub (fun q hq=>by
          rcases hq with hq|hq
          . exact ⟨_, .head _,hq.symm,rfl⟩
          . exact ⟨_,mz1,hq.symm,rfl⟩)) sR.bx
        obtain ⟨ca,ha1,ha2,_⟩:=s.boxAt (c:=3) rfl
        obtain rfl:ca= [(.slice (some ⟨x.g,0,none⟩) x.row.length x.cap)]:=ha2
        obtain ⟨cb,hd1,hd2,_⟩:=s.boxAt (c:=2) rfl
        obtain rfl:cb= [x.vo]:=hd2
        have hne: ∀{g:Nat} {cur:Array Wq} {e:Wr},WR.heap[g]?=some (.cells cur e (0,0))->e≠22->e≠33-> ¬(g=b3∨g=b2):=fun h1 h2 h3 hq=>by
          rcases hq with hq|hq
          . exact jC h1 hMx.h3 h2 hq
          . exact jC h1 hMx.h2 h3 hq
        obtain ⟨cg,hcg⟩:=hMx.rr.at
        have hg7:w7.heap[x.g]?=WR.heap[x.g]?:=s.gr.block x.g (zVc.1 hcg).1 (hne hcg dB dB)
        have hM7:CutM W.heap.size b2 b3 x.acc x.row x.vo x.g x.cap w7:=⟨zVi hMx.sz hszR,hd1,ha1,hMx.ro.keep (fun g hg=>by
          obtain ⟨cur,hcur⟩:=qH hMx.ro hg
          exact s.gr.block g (zVc.1 hcur).1 (hne hcur dB dB)) hKU1,hMx.gb,hMx.rr.keep hg7 hKU1⟩
        have hb3W:W.heap.size<=b3:=so.inB_new ⟨_, .head _,rfl,rfl⟩
        have hb2W:W.heap.size<=b2:=so.inB_new ⟨_,mz1,rfl,rfl⟩
        have hbW7:Below W.heap.size W w7:=⟨s.gr.os.trans so.gr.os,s.gr.tape.trans so.gr.tape,s.gr.output.trans so.gr.output,zVi so.gr.size s.gr.size,fun q hq=>(s.gr.block q (zVy hq so.gr.size) (fun h=>by rcases h with h|h<;>omega)).trans (so.gr.block q hq (fun h=>h))⟩
        have hT7:=hT.below hbW7
        refine ⟨s.gr.sub (fun q hq=> .inl (by
          rcases hq with hq|hq
          . exact ⟨_, .head _,hq.symm,rfl⟩
          . exact ⟨_,mz1,hq.symm,rfl⟩)),fun W2 hkc hcell hW2=> ?_⟩
        have hM8:=hM7.keepC hkc
        have hT8:Tab W2:=fun j hj=>(hcell _).trans (hT7 j hj)
        have hb5l:WR.heap.size<=b5:=hb5n
        replace s:=hW2 _ _ (s.wider (fun q=>inB ([⟨3,22,CU.len 1,b3,false⟩,⟨2,33,CU.len 1,b2,false⟩]) q∨WR.heap.size<=q∨R q∨(q=x.g∨x.vo.ownBlock=some q)) (fun q hq=> .inl (by
          rcases hq with hq|hq
          . exact ⟨_, .head _,hq.symm,rfl⟩
          . exact ⟨_,mz1,hq.symm,rfl⟩)) kI)
        have sW:=s
        replace s:=s.move (fun q=>q=b3∨q=b2∨q=b5) (fun q hq=>by
          obtain ⟨y,hy,e,_⟩:=hq
          rcases zVg.1 hy with rfl|hy
          . exact .inr (.inr e.symm)
          . rcases zVg.1 hy with rfl|hy
            . exact .inl e.symm
            . obtain rfl:=zVh.1 hy
              exact .inr (.inl e.symm)) kI
        have sN:=s
        refine zVe ?_
        refine zVb ?_
        refine zB 3 ((30, .s (fCM W.heap.size b2 b3 x.acc x.row x.vo x.g x.cap))::(31, .s (uI (k:Int)).tS)::(32, .u (uB (zNt x.row k))):: []) hmix s kI
          (oc (zBA (v:=(.slice (some ⟨x.g,0,none⟩) x.row.length x.cap)) (f:=(fCM W.heap.size b2 b3 x.acc x.row x.vo x.g x.cap)) kI (fun _ _ h=>h.2) ⟨rfl,hM8⟩)<|oc zC<|oc (zM zCl zRJ (fun u0 u1 X hb (h0:(fCM W.heap.size b2 b3 x.acc x.row x.vo x.g x.cap).p u0 X) h1=>by rw [h0.1];exact zOp (m:=1) (zKF hqx _ _ (h0.2.rr.toN lr (zAn _).symm).row) h1 hk oP (by have:=hI.few;omega) dB dB (hT8.below hb)))<|zE) fun a w9 s=> ?_
        refine zA rfl ?_
        have hKU9:yO W2 w9:=y8 (s.gr.sub (fun q hq=>by
          rcases hq with hq|hq|hq
          . exact ⟨_,mz1,hq.symm,rfl⟩
          . exact ⟨_,mz2,hq.symm,rfl⟩
          . exact ⟨_, .head _,hq.symm,rfl⟩)) sN.bx
        have hne9: ∀{g:Nat} {cur:Array Wq} {e:Wr},W2.heap[g]?=some (.cells cur e (0,0))->g<WR.heap.size->e≠22->e≠33-> ¬(g=b3∨g=b2∨g=b5):=fun h1 h0 h2 h3 hq=>by
          rcases hq with hq|hq|hq
          . exact jC h1 hM8.h3 h2 hq
          . exact jC h1 hM8.h2 h3 hq
          . omega
        obtain ⟨cg8,hcg8⟩:=hM8.rr.at
        have hgR:x.g<WR.heap.size:=(zVc.1 hcg).1
        have hg9:w9.heap[x.g]?=W2.heap[x.g]?:=s.gr.block x.g (zVc.1 hcg8).1 (hne9 hcg8 hgR dB dB)
        have hroR: ∀g,x.vo.ownBlock=some g->g<WR.heap.size:=fun g hg=>by
          obtain ⟨cur,hcur⟩:=qH hMx.ro hg
          exact (zVc.1 hcur).1
        obtain ⟨cc,hc1,hc2,_⟩:=s.boxAt (c:=3) rfl
        obtain rfl:cc= [(.slice (some ⟨x.g,0,none⟩) x.row.length x.cap)]:=hc2
        obtain ⟨cd,hd3,hd4,_⟩:=s.boxAt (c:=2) rfl
        obtain rfl:cd= [x.vo]:=hd4
        have hM9:CutM W.heap.size b2 b3 x.acc x.row x.vo x.g x.cap w9:=⟨zVi hM8.sz s.gr.size,hd3,hc1,hM8.ro.keep (fun g hg=>by
          obtain ⟨cur,hcur⟩:=qH hM8.ro hg
          exact s.gr.block g (zVc.1 hcur).1 (hne9 hcur (hroR g hg) dB dB)) hKU9,hM8.gb,hM8.rr.keep hg9 hKU9⟩
        have hsame: ∀q,(q=x.g∨x.vo.ownBlock=some q)->w9.heap[q]?=w3.heap[q]?:=fun q hq=>by
          obtain ⟨cur,e,h1,h2,h3⟩: ∃(cur:Array Wq) (e:Wr),WR.heap[q]?=some (.cells cur e (0,0))/\e≠22/\e≠33:=by
            rcases hq with hq|hq
            . rw [hq]
              exact ⟨_,_,hcg,by decide,by decide⟩
            . obtain ⟨cur,hcur⟩:=qH hMx.ro hq
              exact ⟨_,_,hcur,by decide,by decide⟩
          have hlt:=(zVc.1 h1).1
          have e7:w7.heap[q]?=WR.heap[q]?:=hbl7.block q hlt (hne h1 h2 h3)
          have e8:=hkc.2 _ _ (e7.trans h1) rfl
          have e9:w9.heap[q]?=W2.heap[q]?:=s.gr.block q (zVc.1 e8).1 (hne9 e8 hlt h2 h3)
          exact e9.trans (e8.trans (h1.symm.trans (hMk q hq)))
        refine StS.cond s (zNt x.row k) iiz (fun e=> ?_) (fun e=> ?_)
        . have hear:zP4 x.row=some k:=zLn hk hno e
          have hlk:k<12:=by have:=hI.few;omega
          have hob9: ∀g,x.vo.ownBlock=some g->g<W2.heap.size/\ ¬(g=b3∨g=b2∨g=b5):=fun g hg=>by
            obtain ⟨cur,hcur⟩:=qH hM8.ro hg
            exact ⟨(hM8.ro.lt g hg).2,hne9 hcur (hroR g hg) dB dB⟩
          have hgo: ∀g,x.vo.ownBlock=some g->g≠x.g:=fun g hg=>by
            obtain ⟨cur,hcur⟩:=qH hM8.ro hg
            exact jC hcur hcg8 (show (38:Wr)≠30 by decide)
          have hxg: ¬(x.g=b3∨x.g=b2∨x.g=b5):=hne9 hcg8 hgR dB dB
          replace s:=s.keepK [(6, .u (uI (k:Int)))] (fmz ⟨by repeat (first|exact List.Mem.head _|apply List.Mem.tail),fnz⟩)
          refine zVb ?_
          refine yD 3 ((33, .u (UF.eq x.vo))::(34, .Z (fTN (zAP x.row k)))::(35, .s (SF.row 18 (tns [zAP x.row k]))):: []) hmix s kI
            (oc (yW (C:=(wB [x.vo]).cf) kI (fun _ _ h=>h.2) zAq)<|oc (zR (f:=fTN (zAP x.row k)) 18 kI (hz:=zGe _))<|oc (jP (fun u W (hu:(fTN (zAP x.row k)).p u W)=>zJ1 hu))<|zE) fun a w10 s hr=> ?_
          have hKU10:yO W2 w10:=y8 (s.gr.sub (fun q hq=>by
          rcases hq with hq|hq|hq
          . exact ⟨_,mz1,hq.symm,rfl⟩
          . exact ⟨_,mz2,hq.symm,rfl⟩
          . exact ⟨_, .head _,hq.symm,rfl⟩)) sN.bx
          have hRR10:=hM8.rr.keep (s.gr.block x.g (zVc.1 hcg8).1 hxg) hKU10
          have hRO10:=hM8.ro.keep (fun g hg=>s.gr.block g (hob9 g hg).1 (hob9 g hg).2) hKU10
          have hsz10:=s.gr.size
          replace s:=wM sW s (fun q hq=>by
          rcases hq with rfl|rfl|rfl
          . exact .inl (.inl ⟨_, .head _,rfl,rfl⟩)
          . exact .inl (.inl ⟨_,mz1,rfl,rfl⟩)
          . exact .inl (.inr (.inl hb5l))) kI
          have sH:=s
          replace s:=s.move (fun q=>(q=b3∨q=b2∨q=b5)∨x.vo.ownBlock=some q) (fun q hq=> .inl (by
            obtain ⟨y,hy,e,_⟩:=hq
            rcases zVg.1 hy with rfl|hy
            . exact .inr (.inr e.symm)
            . rcases zVg.1 hy with rfl|hy
              . exact .inl e.symm
              . obtain rfl:=zVh.1 hy
                exact .inr (.inl e.symm))) kI
          have sA:=s
          have hsz8:=hM8.sz
          refine zNS (tns [zAP x.row k]) s (zVi hsz8 hsz10) hRO10 (fun g hg=> .inl (.inr hg)) rfl kI kI kI (s.val (.head _)) (hr (_,_) mz2) (zNO _) (by have:=hI.sum;simp [tns];omega) (fmz ⟨fun h=>(hob9 _ h).2 (.inr (.inr rfl)),fmz ⟨fun h=>(hob9 _ h).2 (.inl rfl),fmz ⟨fun h=>(hob9 _ h).2 (.inr (.inl rfl)),fnz⟩⟩⟩) fun v' a w11 hwz hRO11 hobn hnb s=> ?_
          obtain ⟨A8,n8,c8,rfl⟩:=zB2 hRO11
          have hKU11:yO w10 w11:=zLc s.gr (fun q hq=>by
            rcases hq with (hq|hq|hq)|hq
            . obtain ⟨cs,h1,_,h2⟩:=sA.boxAt (c:=3) rfl
              rw [hq]
              exact ⟨_,_,_,h1,by simpa using h2⟩
            . obtain ⟨cs,h1,_,h2⟩:=sA.boxAt (c:=2) rfl
              rw [hq]
              exact ⟨_,_,_,h1,by simpa using h2⟩
            . obtain ⟨cs,h1,_,h2⟩:=sA.boxAt (c:=7) rfl
              rw [hq]
              exact ⟨_,_,_,h1,by simpa using h2⟩
            . exact (zCs hRO10 hq).2)
          obtain ⟨cg10,hcg10⟩:=hRR10.at
          have hRR11:=hRR10.keep (s.gr.block x.g (zVc.1 hcg10).1 (fun hq=>by
            rcases hq with hq|hq
            . exact hxg hq
            . exact hgo _ hq rfl)) hKU11
          have hsA:=s
          replace s:=s.move (fun q=>q=b3∨q=b2∨q=b5) (fun q hq=>by
          obtain ⟨y,hy,e,_⟩:=hq
          rcases zVg.1 hy with rfl|hy
          . exact .inr (.inr e.symm)
          . rcases zVg.1 hy with rfl|hy
            . exact .inl e.symm
            . obtain rfl:=zVh.1 hy
              exact .inr (.inl e.symm)) kI
          have sN2:=s
          have hO: ∀g,Value.ownBlock (.slice A8 n8 c8)=some g-> ¬(g=b3∨g=b2∨g=b5):=fun g hg hq=>by
            rcases hq with rfl|rfl|rfl
            . exact hnb _ mz1 hg
            . exact hnb _ mz2 hg
            . exact hnb _ (.head _) hg
          refine jH (c:=2) (o:=0) (kk:=1) (wB [.slice A8 n8 c8]) ((UF.eq (.slice A8 n8 c8)).tS) rfl s kI rfl rfl (fun _ _ h=>h.1) iiz (zEK fun cs W h=>by rw [show cs=_ from h];rfl) fun a w12 s=> ?_
          refine zA rfl ?_
          have hKU12:yO w11 w12:=y8 (s.gr.sub (fun q hq=>by
          rcases hq with hq|hq|hq
          . exact ⟨_,mz1,hq.symm,rfl⟩
          . exact ⟨_,mz2,hq.symm,rfl⟩
          . exact ⟨_, .head _,hq.symm,rfl⟩)) sN2.bx
          obtain ⟨cg11,hcg11⟩:=hRR11.at
          have hRR12:=hRR11.keep (s.gr.block x.g (zVc.1 hcg11).1 hxg) hKU12
          have hRO12:=hRO11.keep (fun g hg=>s.gr.block g (hRO11.lt g hg).2 (hO g hg)) hKU12
          have hsz12:=s.gr.size
          replace s:=wM hsA s (fun q hq=> .inl (.inl hq)) kI
          replace s:=wM sH s (fun q hq=>by
            rcases hq with (rfl|rfl|rfl)|hq
            . exact .inl (.inl ⟨_, .head _,rfl,rfl⟩)
            . exact .inl (.inl ⟨_,mz1,rfl,rfl⟩)
            . exact .inl (.inr (.inl hb5l))
            . exact .inl (.inr (.inr (.inr (.inr hq))))) kI
          replace s:=s.keepK [(6, .u (uI (k:Int)))] (fmz ⟨by repeat (first|exact List.Mem.head _|apply List.Mem.tail),fnz⟩)
          have sW3:=s
          replace s:=s.move (fun q=>q=b3∨q=b2∨q=b5) (fun q hq=>by
          obtain ⟨y,hy,e,_⟩:=hq
          rcases zVg.1 hy with rfl|hy
          . exact .inr (.inr e.symm)
          . rcases zVg.1 hy with rfl|hy
            . exact .inl e.symm
            . obtain rfl:=zVh.1 hy
              exact .inr (.inl e.symm)) kI
          have sN3:=s
          refine zVb ?_
          refine zB 4 ((37, .u (UF.eq (.slice (some ⟨x.g,0,none⟩) x.row.length x.cap)))::(38, .u (uI (k:Int)))::(39, .u (uI (k:Int)))::(40, .u (uI ((k+1:Nat):Int))):: []) hmix s kI
            (oc (yW (C:=(wB [(.slice (some ⟨x.g,0,none⟩) x.row.length x.cap)]).cf) kI (fun _ _ h=>h.2) zAq)<|oc zC<|oc zC<|oc (yX .i64 (k:Int) 1 ((k+1:Nat):Int) iiz iiz (wrap64 _ _ oP oP))<|zE) fun a w13 s=> ?_
          have hKU13:yO w12 w13:=y8 (s.gr.sub (fun q hq=>by
          rcases hq with hq|hq|hq
          . exact ⟨_,mz1,hq.symm,rfl⟩
          . exact ⟨_,mz2,hq.symm,rfl⟩
          . exact ⟨_, .head _,hq.symm,rfl⟩)) sN3.bx
          obtain ⟨cg12,hcg12⟩:=hRR12.at
          have hRR13:=hRR12.keep (s.gr.block x.g (zVc.1 hcg12).1 hxg) hKU13
          have hRO13:=hRO12.keep (fun g hg=>s.gr.block g (hRO12.lt g hg).2 (hO g hg)) hKU13
          have hsz13:=s.gr.size
          replace s:=wM sW3 s (fun q hq=>by
          rcases hq with rfl|rfl|rfl
          . exact .inl (.inl ⟨_, .head _,rfl,rfl⟩)
          . exact .inl (.inl ⟨_,mz1,rfl,rfl⟩)
          . exact .inl (.inr (.inl hb5l))) kI
          have hv37:=s.val (.head _)
          have hv38:=s.val mz1
          have hv40:=s.val mz3
          have hc:=zNW (W:=w13) (g:=x.g) (cap:=x.cap) (i:=k) (v:=a.tmps.getD 37 undef) (u:=a.tmps.getD 38 undef) (x:=a.tmps.getD 40 undef) hRR13 (zN8 _) (by rw [zAn];exact hk) (by rw [zAn];have:=hI.few;omega) (by rw [zAn];exact hv37) hv38 hv40
          have hargs:(#[.tmp 37, .tmp 38, .tmp 40]:Array Operand).map a.eval=#[a.tmps.getD 37 undef,a.tmps.getD 38 undef,a.tmps.getD 40 undef]:=by
            rw [zVI]
            simp [Act.eval]
          obtain ⟨cg13,hcg13⟩:=hRR13.at
          refine zJT (g:=x.g) zCl zRH s (.inl (.inr (.inr (.inr (.inl rfl))))) rfl kI kI (fun w' hw=>hRR13.keepU hw) (fmz ⟨fun h=>hxg (.inr (.inr h.symm)),fmz ⟨fun h=>hxg (.inl h.symm),fmz ⟨fun h=>hxg (.inr (.inl h.symm)),fnz⟩⟩⟩) hargs hc fun a w14 hRR14 hgb14 s=> ?_
          have hel:(x.row.eraseIdx k).length=x.row.length - 1:=zVo hk
          rw [zGB] at hRR14
          rw [zAn, <-hel] at s
          have sB:=s
          replace s:=s.move (fun q=>q=b3∨q=b2∨q=b5) (fun q hq=>by
          obtain ⟨y,hy,e,_⟩:=hq
          rcases zVg.1 hy with rfl|hy
          . exact .inr (.inr e.symm)
          . rcases zVg.1 hy with rfl|hy
            . exact .inl e.symm
            . obtain rfl:=zVh.1 hy
              exact .inr (.inl e.symm)) kI
          have sN4:=s
          refine jH (c:=3) (o:=0) (kk:=1) (wB [.slice (some ⟨x.g,0,none⟩) (x.row.eraseIdx k).length x.cap]) ((UF.eq (.slice (some ⟨x.g,0,none⟩) (x.row.eraseIdx k).length x.cap)).tS) rfl s kI rfl rfl (fun _ _ h=>h.1) iiz (zEK fun cs W h=>by rw [show cs=_ from h];rfl) fun a w15 s=> ?_
          refine zA rfl ?_
          have hKU15:yO w14 w15:=y8 (s.gr.sub (fun q hq=>by
          rcases hq with hq|hq|hq
          . exact ⟨_,mz1,hq.symm,rfl⟩
          . exact ⟨_,mz2,hq.symm,rfl⟩
          . exact ⟨_, .head _,hq.symm,rfl⟩)) sN4.bx
          obtain ⟨cg14,hcg14⟩:=hRR14.at
          have hRR15:=hRR14.keep (s.gr.block x.g (zVc.1 hcg14).1 hxg) hKU15
          have hRO14:=hRO13.keep (fun g hg=>by
            obtain ⟨cur,hcur⟩:=qH hRO13 hg
            exact hgb14.block g (hRO13.lt g hg).2 (fun e=>jC hcur hcg13 (show (38:Wr)≠30 by decide) (by injection e))) (hRR13.keepU hgb14)
          have hRO15:=hRO14.keep (fun g hg=>s.gr.block g (hRO14.lt g hg).2 (hO g hg)) hKU15
          have hsz15:=s.gr.size
          have hsz14:=hgb14.size
          obtain ⟨ce,he1,he2,_⟩:=s.boxAt (c:=3) rfl
          obtain rfl:ce= [.slice (some ⟨x.g,0,none⟩) (x.row.eraseIdx k).length x.cap]:=he2
          obtain ⟨cf,hf1,hf2,_⟩:=s.boxAt (c:=2) rfl
          obtain rfl:cf= [.slice A8 n8 c8]:=hf2
          replace s:=wM sB s (fun q hq=>by
          rcases hq with rfl|rfl|rfl
          . exact .inl (.inl ⟨_, .head _,rfl,rfl⟩)
          . exact .inl (.inl ⟨_,mz1,rfl,rfl⟩)
          . exact .inl (.inr (.inl hb5l))) kI
          replace s:=s.popB
          refine zVk ?_
          have hROz:zAs w15 W.heap.size 38 18 (.slice A8 n8 c8) (tns (x.acc++ [zAP x.row k])):=by
            rw [show tns (x.acc++ [zAP x.row k])=tns x.acc++tns [zAP x.row k] by simp [tns]]
            exact hRO15
          exact ⟨rfl,(((s.keepK [] fnz).weakB 3 (CU.len 1) rfl (yQ kI) (fun cs W h=>by rw [show cs=_ from h];rfl)).weakB 2 (CU.len 1) rfl (yQ kI) (fun cs W h=>by rw [show cs=_ from h];rfl)),k, .slice A8 n8 c8,hear,⟨by omega,hf1,he1,hROz,hM8.gb,hRR15⟩⟩
        . have hno': ∀j,j<k+1->zNt x.row j=false:=fun j hj=>by
            rcases zVK.1 hj with h|rfl
            . exact hno j h
            . exact e
          replace s:=wM sW s (fun q hq=>by
          rcases hq with rfl|rfl|rfl
          . exact .inl (.inl ⟨_, .head _,rfl,rfl⟩)
          . exact .inl (.inl ⟨_,mz1,rfl,rfl⟩)
          . exact .inl (.inr (.inl hb5l))) kI
          replace s:=s.popB
          refine zVd ?_
          exact ⟨(((s.keepK [] fnz).weakB 3 (CU.len 1) rfl (yQ kI) (fun cs W h=>by rw [show cs=_ from h];rfl)).weakB 2 (CU.len 1) rfl (yQ kI) (fun cs W h=>by rw [show cs=_ from h];rfl)),fun _=>False,fun q hq=>hq.elim,fun q hq=>hq.elim,⟨hM9,hno'⟩,hsame⟩
      . obtain ⟨hMe,hnoE⟩:=hXN2
        have hel:zP4 x.row=none:=zF4 hnoE
        have hnn:=hI.none h4 hfl hel
        replace s:=s.is2 hMe.h3 hMe.h2
        generalize ({ a with defers:=mark D2::a.defers }:Act)=a at s ⊢
        replace s:=s.keepK [] fnz
        refine zVb ?_
        refine zB 0 [] hmix s kI
          zE fun a w4 s=> ?_
        refine jH (c:=2) (o:=0) (kk:=1) (wB [.slice none 0 0]) ((UF.eq (.slice none 0 0)).tS) rfl s kI rfl rfl (fun _ _ h=>h.1) iiz (zEK fun cs W h=>by rw [show cs=_ from h];rfl) fun a w5 s=> ?_
        refine zA rfl ?_
        refine zVf ?_
        obtain ⟨cz,hz1,hz2,_⟩:=s.boxAt (c:=2) rfl
        obtain rfl:cz= [.slice none 0 0]:=hz2
        exact zFD s (.slice none 0 0) (t:=2) (e:=33) rfl kI rfl hz1 (fun w' ho=>by
          rw [show zG6 ps= [] by unfold zG6;rw [hnn];rfl]
          exact zAs.nil _ _ _ _)
      . obtain ⟨i,vo',hi,hMz⟩:=hz
        have hil:i<x.row.length:=zVA.1 (zVE hi)
        obtain ⟨f',ef,hI'⟩:=hI.ear h4 hfl hi
        have hel:(x.row.eraseIdx i).length=x.row.length - 1:=zVo hil
        have hlf:=hI'.len
        refine zVk ?_
        exact ⟨⟨x.acc++ [zAP x.row i],x.row.eraseIdx i,vo',x.g,x.cap,f'⟩,by show f'<x.f;omega,mark D2::mark D::ds,hI',by show 0<f';omega,by show 0<(x.row.eraseIdx i).length;omega,fun p hp=>hqx p (zVL hp),hMz,s.keepK [] fnz⟩
    . obtain ⟨i,hi,hMz⟩:=hz
      have hil:i<x.row.length:=zVA.1 (zVE hi)
      obtain ⟨f',ef,hI'⟩:=hI.flat h4 hi
      have hel:(x.row.eraseIdx i).length=x.row.length - 1:=zVo hil
      have hlf:=hI'.len
      refine zVk ?_
      exact ⟨⟨x.acc,x.row.eraseIdx i,x.vo,x.g,x.cap,f'⟩,by show f'<x.f;omega,mark D::ds,hI',by show 0<f';omega,by show 0<(x.row.eraseIdx i).length;omega,fun p hp=>hqx p (zVL hp),hMz,s.keepK [] fnz⟩
  . have h3:x.row.length<=3:=by have:=zVj e;omega
    refine zVk ?_
    refine zVb ?_
    refine zVb ?_
    replace s:=s.keepK [] fnz
    have hTw1:=hT.below s.below
    have hcv:zG6 ps=x.acc++zEQ x.row:=by unfold zG6;rw [hI.done hf0 h3];rfl
    obtain ⟨Ao,no_,co,eo⟩:=zB2 hM1.ro
    refine yD 3 ((42, .s (fCM W.heap.size b2 b3 x.acc x.row x.vo x.g x.cap))::(43, .s (uI (x.row.length:Int)).tS)::(44, .u (uB ((x.row.length:Int)==3))):: []) hmix s kI
      (oc (zBA (v:=(.slice (some ⟨x.g,0,none⟩) x.row.length x.cap)) (f:=(fCM W.heap.size b2 b3 x.acc x.row x.vo x.g x.cap)) kI (fun _ _ h=>h.2) ⟨rfl,hM1⟩)<|oc (zCa kI (fun v W h=>⟨_,_,_,h.1,rfl⟩))<|oc (z5 .i64 (x.row.length:Int) 3 ((x.row.length:Int)==3) iiz iiz rfl rfl)<|zE) fun a w2 s hr=> ?_
    have hM2:=(hr (_,_) (.head _)).2
    refine zA rfl ?_
    refine StS.cond s ((x.row.length:Int)==3) iiz (fun e=> ?_) (fun e=> ?_)
    . have hl3:x.row.length=3:=by have:=eq_of_beq e;omega
      have hqT: ∀p,p∈tl (at_ x.row 0,at_ x.row 1,at_ x.row 2)->QB p.1 1/\QB p.2 1:=fun p hp=>by
        have hat: ∀{j:Nat},j<x.row.length->at_ x.row j∈x.row:=fun {j} hj=>by
          unfold at_
          rw [zVx,zVz hj]
          exact List.getElem_mem hj
        simp only [tl,zVg,zVq,zVr] at hp
        rcases hp with rfl|rfl|rfl<;>exact hqx _ (hat oP)
      have hrow2: ∀v W',(fCM W.heap.size b2 b3 x.acc x.row x.vo x.g x.cap).p v W'->(SF.row 6 (pns x.row)).p v W':=fun v W' h=>by
        rw [h.1]
        exact (h.2.rr.toN lr (zAn _).symm).row
      replace s:=s.keepK [] fnz
      refine zVb ?_
      have hTw2:=hT.below s.below
      have so:=s.old;have sg:=s.gr
      refine zBi (fun i=> [].contains i) [⟨10,8,38, [.bool false, .slice none 0 0, .slice none 0 0, .bool false, .slice none 0 0, .slice none 0 0, .bool false, .slice none 0 0, .slice none 0 0, .bool false, .slice none 0 0, .slice none 0 0, .bool false, .slice none 0 0, .slice none 0 0, .bool false, .slice none 0 0, .slice none 0 0],wI w2 38 (CU.len 18)⟩] 11 ((45, .s (fCM W.heap.size b2 b3 x.acc x.row x.vo x.g x.cap))::(46, .Y (fPN (at_ x.row 0)))::(47, .Z (fPN (at_ x.row 0)))::(48, .s (fCM W.heap.size b2 b3 x.acc x.row x.vo x.g x.cap))::(49, .Y (fPN (at_ x.row 1)))::(50, .Z (fPN (at_ x.row 1)))::(51, .s (fCM W.heap.size b2 b3 x.acc x.row x.vo x.g x.cap))::(52, .Y (fPN (at_ x.row 2)))::(53, .Z (fPN (at_ x.row 2)))::(54, .u (fTN (at_ x.row 0,at_ x.row 1,at_ x.row 2)))::(8, .s (wI w2 38 (CU.len 18))):: []) hmix s (fmz ⟨⟨by show 10<11;decide,zJv,⟨_,_,_,rfl⟩,by kernel_rfl,zB8 (fun _=>rfl) rfl⟩,fnz⟩) kI
        (oc (zBA (v:=(.slice (some ⟨x.g,0,none⟩) x.row.length x.cap)) (f:=(fCM W.heap.size b2 b3 x.acc x.row x.vo x.g x.cap)) kI (fun _ _ h=>h.2) ⟨rfl,hM2⟩)<|oc (zZ (z:=6) (Cs:=pns x.row) (i:=0) (C:=CU.agg (fPN (at_ x.row 0))) kI (zCF oP) (fun v W' hb h=>hrow2 v W' h) iiz)<|oc (zR (f:=fPN (at_ x.row 0)) 6 kI (hz:=yP _ _))<|oc (zBA (v:=(.slice (some ⟨x.g,0,none⟩) x.row.length x.cap)) (f:=(fCM W.heap.size b2 b3 x.acc x.row x.vo x.g x.cap)) kI (fun _ _ h=>h.2) ⟨rfl,hM2⟩)<|oc (zZ (z:=6) (Cs:=pns x.row) (i:=1) (C:=CU.agg (fPN (at_ x.row 1))) kI (zCF oP) (fun v W' hb h=>hrow2 v W' h) iiz)<|oc (zR (f:=fPN (at_ x.row 1)) 6 kI (hz:=yP _ _))<|oc (zBA (v:=(.slice (some ⟨x.g,0,none⟩) x.row.length x.cap)) (f:=(fCM W.heap.size b2 b3 x.acc x.row x.vo x.g x.cap)) kI (fun _ _ h=>h.2) ⟨rfl,hM2⟩)<|oc (zZ (z:=6) (Cs:=pns x.row) (i:=2) (C:=CU.agg (fPN (at_ x.row 2))) kI (zCF oP) (fun v W' hb h=>hrow2 v W' h) iiz)<|oc (zR (f:=fPN (at_ x.row 2)) 6 kI (hz:=yP _ _))<|oc (zAJ (fun u v q W' (hu:(fPN (at_ x.row 0)).p u W') (hv:(fPN (at_ x.row 1)).p v W') (hq:(fPN (at_ x.row 2)).p q W')=>zR2 (t:=(at_ x.row 0,at_ x.row 1,at_ x.row 2)) hu hv hq))<|oc (zC7 (cs:= [.bool false, .slice none 0 0, .slice none 0 0, .bool false, .slice none 0 0, .slice none 0 0, .bool false, .slice none 0 0, .slice none 0 0, .bool false, .slice none 0 0, .slice none 0 0, .bool false, .slice none 0 0, .slice none 0 0, .bool false, .slice none 0 0, .slice none 0 0]) kI (zB8 (fun _=>rfl) rfl))<|zE) fun Q' hQ a w3 s hr hd=> ?_
      have hM3:=(hr (_,_) (.head _)).2
      obtain ⟨b8,hB8,e8,s⟩:=s.adoptA false 8 (hr (_,_) zJv) sg (fun y hy=> .inl (so y hy))
      refine zCU (c:=8) (o:=0) (kk:=18) (CU.agg (fTN (at_ x.row 0,at_ x.row 1,at_ x.row 2))) ((fTN (at_ x.row 0,at_ x.row 1,at_ x.row 2)).tS) rfl s kI rfl rfl (fun _ _ h=>h.1) iiz zSr fun w4 hg4 hk4 s=> ?_
      have hRO4:=hM3.ro.keep (fun g hg=>hg4.block g (hM3.ro.lt g hg).2 (fun e=>by
        have h1:=(hM2.ro.lt g hg).2
        injection e with e
        have e':g=b8:=e
        omega)) hk4
      refine zA rfl (hQ _ _ ?_)
      replace s:=s.keepK [] fnz
      have hTw4:=hT.below s.below
      refine zVb ?_
      refine yD 3 ((55, .Z (fTN (at_ x.row 0,at_ x.row 1,at_ x.row 2)))::(56, .s (fIR W.heap.size 38 18 (zBo (at_ x.row 0,at_ x.row 1,at_ x.row 2)) x.vo (tns x.acc)))::(57, .u (uB (zBo (at_ x.row 0,at_ x.row 1,at_ x.row 2)==1))):: []) hmix s kI
        (oc (zR (f:=fTN (at_ x.row 0,at_ x.row 1,at_ x.row 2)) 18 kI (hz:=zGe _))<|oc (zH zD zP0 (fun u0 X hb (h0:(fTN (at_ x.row 0,at_ x.row 1,at_ x.row 2)).p u0 X)=>(zF5 (m:=1) (zMc hqT h0) dB dB (hTw4.below hb)).mono (fun e' W' hret=>by
          obtain ⟨v,e1,e2,e3⟩:=hret
          exact ⟨v,e1,⟨e2,(hRO4.below hb).below e3⟩,e3⟩)))<|oc (z5 .i64 (zBo (at_ x.row 0,at_ x.row 1,at_ x.row 2)) 1 (zBo (at_ x.row 0,at_ x.row 1,at_ x.row 2)==1) (fun _ _ h=>h.1) iiz rfl rfl)<|zE) fun a w5 s hr=> ?_
      have hRO5:=(hr (_,_) mz1).2
      refine zA rfl ?_
      refine StS.cond s (zBo (at_ x.row 0,at_ x.row 1,at_ x.row 2)==1) iiz (fun e1=> ?_) (fun e1=> ?_)
      . have hcv':tns x.acc++tns [(at_ x.row 0,at_ x.row 1,at_ x.row 2)]=tns (zG6 ps):=by
          rw [hcv,show zEQ x.row= [(at_ x.row 0,at_ x.row 1,at_ x.row 2)] by unfold zEQ;rw [if_pos ⟨hl3,eq_of_beq e1⟩]]
          simp [tns]
        refine yD 3 ((58, .s (fVR W.heap.size 38 18 x.vo (tns x.acc)))::(59, .Z (fTN (at_ x.row 0,at_ x.row 1,at_ x.row 2)))::(60, .s (SF.row 18 (tns [(at_ x.row 0,at_ x.row 1,at_ x.row 2)]))):: []) hmix s kI
          (oc (zBA (v:=x.vo) (f:=fVR W.heap.size 38 18 x.vo (tns x.acc)) kI (fun _ _ h=>h.2) ⟨rfl,hRO5⟩)<|oc (zR (f:=fTN (at_ x.row 0,at_ x.row 1,at_ x.row 2)) 18 kI (hz:=zGe _))<|oc (jP (fun u W' (hu:(fTN (at_ x.row 0,at_ x.row 1,at_ x.row 2)).p u W')=>zJ1 hu))<|zE) fun a w6 s hr=> ?_
        have hEv6:=hr (_,_) (.head _)
        have hRO6:zAs w6 W.heap.size 38 18 x.vo (tns x.acc):=hEv6.2
        replace s:=s.keepK [] fnz
        refine zQD (tns [(at_ x.row 0,at_ x.row 1,at_ x.row 2)]) s hRO6 rfl kI kI kI hEv6.1 (hr (_,_) mz2) (zNO _) (by have:=hI.sum;simp [tns];omega) (fmz ⟨fun h=>by
          have h1:=(hM2.ro.lt b8 h).2
          omega,fmz ⟨fun h=>by
          obtain ⟨cur,hcur⟩:=qH hM2.ro h
          exact jC hcur hM2.h3 (show (38:Wr)≠22 by decide) rfl,fmz ⟨fun h=>by
          obtain ⟨cur,hcur⟩:=qH hM2.ro h
          exact jC hcur hM2.h2 (show (38:Wr)≠33 by decide) rfl,fnz⟩⟩⟩) fun v' a w7 hRO7 hnb s=> ?_
        rw [hcv'] at hRO7
        obtain ⟨A8,n8,c8,rfl⟩:=zB2 hRO7
        refine zCU (c:=2) (o:=0) (kk:=1) (wB [.slice A8 n8 c8]) ((UF.eq (.slice A8 n8 c8)).tS) rfl s kI rfl rfl (fun _ _ h=>h.1) iiz (zEK fun cs W h=>by rw [show cs=_ from h];rfl) fun w8 hg8 hk8 s=> ?_
        refine zA rfl ?_
        have hRO8:=hRO7.keep (fun g hg=>hg8.block g (hRO7.lt g hg).2 (fun e=>hnb _ mz2 (hg.trans e))) hk8
        refine zVb ?_
        replace s:=s.keepK [] fnz
        refine yD 1 ((62, .s (fVR W.heap.size 38 18 (.slice A8 n8 c8) (tns (zG6 ps)))):: []) hmix s kI
          (oc (zBA (v:=(.slice A8 n8 c8)) (f:=fVR W.heap.size 38 18 (.slice A8 n8 c8) (tns (zG6 ps))) kI (fun _ _ h=>h.2) ⟨rfl,hRO8⟩)<|zE) fun a wy s hr=> ?_
        have hEv:=hr (_,_) (.head _)
        have hRy:=hEv.2
        replace s:=s.learn 62 (.slice A8 n8 c8) (hEv.1.trans rfl)
        obtain ⟨cv,hv1,hv2,_⟩:=s.boxAt (c:=2) rfl
        refine zCU (c:=2) (o:=0) (kk:=1) (wB [(.slice A8 n8 c8)]) ((UF.eq (.slice A8 n8 c8)).tS) rfl s kI rfl rfl (fun _ _ h=>h.1) iiz (zEK fun cs W h=>by rw [show cs=_ from h];rfl) fun wz hgz hkz s=> ?_
        refine zA rfl ?_
        have hRz:=hRy.keep (fun g hg=>hgz.block g (hRy.lt g hg).2 (fun e=>by
          obtain ⟨cur,hcur⟩:=qH hRy hg
          exact jC hcur hv1 (show (38:Wr)≠33 by decide) (by injection e))) hkz
        refine zVf ?_
        obtain ⟨cz,hz1,hz2,_⟩:=s.boxAt (c:=2) rfl
        obtain rfl:cz= [(.slice A8 n8 c8)]:=hz2
        exact zFD s (.slice A8 n8 c8) (t:=2) (e:=33) rfl kI rfl hz1 (fun w' ho=>zAs.keepC hRz (zDd ho))
      . have hcv':tns x.acc=tns (zG6 ps):=by
          rw [hcv,show zEQ x.row= [] by unfold zEQ;rw [if_neg (fun h=>by have:=h.2;simp [this] at e1)]]
          simp
        rw [hcv'] at hRO5
        refine zVd ?_
        refine zVb ?_
        replace s:=s.keepK [] fnz
        refine yD 1 ((62, .s (fVR W.heap.size 38 18 x.vo (tns (zG6 ps)))):: []) hmix s kI
          (oc (zBA (v:=x.vo) (f:=fVR W.heap.size 38 18 x.vo (tns (zG6 ps))) kI (fun _ _ h=>h.2) ⟨rfl,hRO5⟩)<|zE) fun a wy s hr=> ?_
        have hEv:=hr (_,_) (.head _)
        have hRy:=hEv.2
        replace s:=s.learn 62 (.slice Ao no_ co) (hEv.1.trans eo)
        rw [show x.vo=(.slice Ao no_ co) from eo] at hRy
        obtain ⟨cv,hv1,hv2,_⟩:=s.boxAt (c:=2) rfl
        refine zCU (c:=2) (o:=0) (kk:=1) (wB [(.slice Ao no_ co)]) ((UF.eq (.slice Ao no_ co)).tS) rfl s kI rfl rfl (fun _ _ h=>h.1) iiz (zEK fun cs W h=>by rw [show cs=_ from h];rfl) fun wz hgz hkz s=> ?_
        refine zA rfl ?_
        have hRz:=hRy.keep (fun g hg=>hgz.block g (hRy.lt g hg).2 (fun e=>by
          obtain ⟨cur,hcur⟩:=qH hRy hg
          exact jC hcur hv1 (show (38:Wr)≠33 by decide) (by injection e))) hkz
        refine zVf ?_
        obtain ⟨cz,hz1,hz2,_⟩:=s.boxAt (c:=2) rfl
        obtain rfl:cz= [(.slice Ao no_ co)]:=hz2
        exact zFD s (.slice Ao no_ co) (t:=2) (e:=33) rfl kI rfl hz1 (fun w' ho=>zAs.keepC hRz (zDd ho))
    . have hl3:x.row.length≠3:=fun h=>by rw [h] at e;exact absurd e dB
      have hcv':tns x.acc=tns (zG6 ps):=by
        rw [hcv,show zEQ x.row= [] by unfold zEQ;rw [if_neg (fun h=>hl3 h.1)]]
        simp
      have hRO5:=hM2.ro
      rw [hcv'] at hRO5
      refine zVd ?_
      refine zVb ?_
      replace s:=s.keepK [] fnz
      refine yD 1 ((62, .s (fVR W.heap.size 38 18 x.vo (tns (zG6 ps)))):: []) hmix s kI
        (oc (zBA (v:=x.vo) (f:=fVR W.heap.size 38 18 x.vo (tns (zG6 ps))) kI (fun _ _ h=>h.2) ⟨rfl,hRO5⟩)<|zE) fun a wy s hr=> ?_
      have hEv:=hr (_,_) (.head _)
      have hRy:=hEv.2
      replace s:=s.learn 62 (.slice Ao no_ co) (hEv.1.trans eo)
      rw [show x.vo=(.slice Ao no_ co) from eo] at hRy
      obtain ⟨cv,hv1,hv2,_⟩:=s.boxAt (c:=2) rfl
      refine zCU (c:=2) (o:=0) (kk:=1) (wB [(.slice Ao no_ co)]) ((UF.eq (.slice Ao no_ co)).tS) rfl s kI rfl rfl (fun _ _ h=>h.1) iiz (zEK fun cs W h=>by rw [show cs=_ from h];rfl) fun wz hgz hkz s=> ?_
      refine zA rfl ?_
      have hRz:=hRy.keep (fun g hg=>hgz.block g (hRy.lt g hg).2 (fun e=>by
        obtain ⟨cur,hcur⟩:=qH hRy hg
        exact jC hcur hv1 (show (38:Wr)≠33 by decide) (by injection e))) hkz
      refine zVf ?_
      obtain ⟨cz,hz1,hz2,_⟩:=s.boxAt (c:=2) rfl
      obtain rfl:cz= [(.slice Ao no_ co)]:=hz2
      exact zFD s (.slice Ao no_ co) (t:=2) (e:=33) rfl kI rfl hz1 (fun w' ho=>zAs.keepC hRz (zDd ho))
end Go.Proofs.Wd

namespace Go.Proofs.Wd
open Tryz
set_option maxRecDepth 100000
set_option maxHeartbeats 1000000
open Go.RowKit Lb
theorem zSu (a b c d e f g h:Int):z9 prog 51 8 [(0, .int .i64 a),(1, .int .i64 b),(2, .int .i64 c),(3, .int .i64 d),(4, .int .i64 e),(5, .int .i64 f),(6, .int .i64 g),(7, .int .i64 h)]=some (3,#[.int .i64 a, .int .i64 b, .int .i64 c, .int .i64 d, .int .i64 e, .int .i64 f, .int .i64 g, .int .i64 h]):=by kernel_rfl
theorem zGH {F:Fence} {m:Nat} {w0:Wp} {ops:Array Oper} {G:Nat->SF} {d:Tmp} {ty:Wr} {pos:String} {aft:Array Edge} (a b c e f g h i:Int) (hd: ∀v W,(SF.row 1 (zDe [a,b,c,e,f,g,h,i])).p v W->(G d).p v W):qK F m prog w0 ops G ⟨some d, .buildSlice 51 8 #[(0, .const (.int .i64 a)),(1, .const (.int .i64 b)),(2, .const (.int .i64 c)),(3, .const (.int .i64 e)),(4, .const (.int .i64 f)),(5, .const (.int .i64 g)),(6, .const (.int .i64 h)),(7, .const (.int .i64 i))],ty,pos,aft,none⟩:=
 zC4 fun bb W hb hh=>by
  have h1:=zSu a b c e f g h i
  have ev: ∀v:Wq,bb.eval (.const v)=v:=fun _=>rfl
  refine ⟨3,#[.int .i64 a, .int .i64 b, .int .i64 c, .int .i64 e, .int .i64 f, .int .i64 g, .int .i64 h, .int .i64 i],by simpa [ev] using h1,hd _ _ (zIe (L:= [a,b,c,e,f,g,h,i]) rfl rfl oP)⟩
abbrev zSj:List Int:= [0,0,2,0,2,2,0,2]
abbrev zSk:List Int:= [0,0,1,0,2,0,0,2]
abbrev zQp:List Int:= [0,2,0,0,2,0]
abbrev zQo:List Int:= [2,0,2,2,0,2]
abbrev zOy:List Int:= [0,0,2,0,0,2]
abbrev zQg:V6:=((((0:Int):Rat),((2:Int):Rat)),(((0:Int):Rat),((0:Int):Rat)),(((2:Int):Rat),((0:Int):Rat)))
abbrev zQf:V6:=((((2:Int):Rat),((0:Int):Rat)),(((2:Int):Rat),((2:Int):Rat)),(((0:Int):Rat),((2:Int):Rat)))
abbrev zIZ:V6:=((((0:Int):Rat),((0:Int):Rat)),(((2:Int):Rat),((0:Int):Rat)),(((0:Int):Rat),((2:Int):Rat)))
abbrev zHO:List V6:= [zQg,zQf]
abbrev zOu:List V6:= [zIZ]
theorem ck1:zG6 (zCo zSj 4)=zHO:=by kernel_rfl
theorem ck2:zG6 (zCo zSk 4)=zOu:=by kernel_rfl
theorem ck3:(qsg (arK zHO 2) ((8:Int):Rat)==0)=true:=by kernel_rfl
theorem ck4:zCQ zIZ (((1:Int):Rat),((1:Int):Rat))=0:=by kernel_rfl
theorem ck5:zNt (zCo zOy 3) 0=true:=by kernel_rfl
theorem qpz {a b:Int} (h:a.natAbs<100) (k:b.natAbs<100):QB ((a:Int):Rat) 1/\QB ((b:Int):Rat) 1:=⟨qbz h,qbz k⟩
theorem zJV: ∀p,p∈tl zQg->QB p.1 1/\QB p.2 1:=fmz ⟨qpz dB dB,fmz ⟨qpz dB dB,fmz ⟨qpz dB dB,fnz⟩⟩⟩
theorem zJU: ∀p,p∈tl zQf->QB p.1 1/\QB p.2 1:=fmz ⟨qpz dB dB,fmz ⟨qpz dB dB,fmz ⟨qpz dB dB,fnz⟩⟩⟩
theorem zOQ: ∀p,p∈tl zIZ->QB p.1 1/\QB p.2 1:=fmz ⟨qpz dB dB,fmz ⟨qpz dB dB,fmz ⟨qpz dB dB,fnz⟩⟩⟩
theorem zSn: ∀t,t∈zHO-> ∀p,p∈tl t->QB p.1 1/\QB p.2 1:=fmz ⟨zJV,fmz ⟨zJU,fnz⟩⟩
theorem zSo: ∀i,i<zHO.length-> ∀p,p∈tl (at3 zHO i)->QB p.1 1/\QB p.2 1:=fun i hi=>by
 match i,hi with
 |0,_=>exact zJV
 |1,_=>exact zJU
theorem zFN {L:List Int} {k:Nat} (hL:L.all (fun z=>decide (z.natAbs<100))=true) (v:Wq) (W:Wp) (h:(SF.row 6 (pns (zCo L k))).p v W):(SF.row 6 (pvs 1 (zCo L k))).p v W:=zKF (zOJ (zE8 hL) k) v W h
theorem zEa {W:Wp} (hT:Tab W):Calls prog 8 #[] W (Ret W (fB true).tS):=by
 refine yF [] func8 rfl kI trivial fun a s=> ?_
 refine zVb ?_
 refine zB 1 ((0, .u (uB false)):: []) hmix s kI
  (oc zG<|zE) fun a w1 s=> ?_
 refine zA rfl ?_
 refine zVb ?_
 refine yD 3 ((6, .s (SF.row 1 (zDe [0,0,2,0,2,2,0,2])))::(7, .s (wE w1 30 6 (pns (zCo zSj 4))))::(8, .s (wE w1 38 18 (tns zHO))):: []) hmix s kI
  (oc (zGH _ _ _ _ _ _ _ _ iiz)<|oc (zH zD zLv (fun u0 W hb (h0:(SF.row 1 (zDe [0,0,2,0,2,2,0,2])).p u0 W)=>(zEq (L:=zSj) h0 (zE8 dB).ok dB).mono (wD (qQ hb.size))))<|oc (zH zD zTF (fun u0 W hb h0=>(zOq (ps:=zCo zSj 4) (zFN dB _ _ (jR _ _ h0)) (by rw [zBp];decide) (by rw [zBp];decide) (hT.below (s.up hb))).mono (wD (fun v W h=>qQ hb.size v W (by rw [ck1] at h;exact h)))))<|zE) fun a w2 s hr=> ?_
 obtain ⟨v8,e8⟩: ∃v,a.tmps.getD 8 undef=v:=⟨_,rfl⟩
 have hv8:(SF.row 18 (tns zHO)).p v8 w2:=e8▸jR _ _ (hr (_,_) mz2)
 replace s:=s.learn 8 v8 e8
 have hb0:=s.below
 replace hT:=hT.below hb0
 replace s:=s.reb rfl [(8, .u (UF.eq v8)),(0, .u (uB false))] (fmz ⟨.inl (.head _),fmz ⟨.inl mz1,fnz⟩⟩)
 refine qN (UF.eq v8) rfl s kI iiz fun a w s=> ?_
 refine zA rfl ?_
 refine zVb ?_
 refine yD 3 ((9, .s (SF.row 1 (zDe [0,0,1,0,2,0,0,2])))::(10, .s (wE w 30 6 (pns (zCo zSk 4))))::(11, .s (wE w 38 18 (tns zOu))):: []) hmix s kI
  (oc (zGH _ _ _ _ _ _ _ _ iiz)<|oc (zH zD zLv (fun u0 W hb (h0:(SF.row 1 (zDe [0,0,1,0,2,0,0,2])).p u0 W)=>(zEq (L:=zSk) h0 (zE8 dB).ok dB).mono (wD (qQ hb.size))))<|oc (zH zD zTF (fun u0 W hb h0=>(zOq (ps:=zCo zSk 4) (zFN dB _ _ (jR _ _ h0)) (by rw [zBp];decide) (by rw [zBp];decide) (hT.below (s.up hb))).mono (wD (fun v W h=>qQ hb.size v W (by rw [ck2] at h;exact h)))))<|zE) fun a w3 s hr=> ?_
 obtain ⟨v11,e11⟩: ∃v,a.tmps.getD 11 undef=v:=⟨_,rfl⟩
 have hv11:(SF.row 18 (tns zOu)).p v11 w3:=e11▸jR _ _ (hr (_,_) mz2)
 replace s:=s.learn 11 v11 e11
 have hb1:=s.below
 replace hT:=hT.below hb1
 replace hv8:=(SF.row 18 _).st _ _ _ hv8 hb1
 replace s:=s.reb rfl [(11, .u (UF.eq v11)),(1, .u (UF.eq v8)),(8, .u (UF.eq v8)),(0, .u (uB false))] (fmz ⟨.inl (.head _),fmz ⟨.inl mz1,fmz ⟨.inl mz2,fmz ⟨.inl mz3,fnz⟩⟩⟩⟩)
 refine qN (UF.eq v11) rfl s kI iiz fun a w s=> ?_
 refine zA rfl ?_
 refine zVb ?_
 refine zVb ?_
 refine zB 8 ((12, .Z (UF.eq v8))::(13, .Z (uI ((tns zHO).length:Int)))::(14, .Z (uB false))::(15, .Z (uB false))::(16, .Z (UF.eq v11))::(17, .Z (uI ((tns zOu).length:Int)))::(18, .Z (uB false))::(19, .u (uB false)):: []) hmix s kI
  (oc zC<|oc (y7 (z:=18) (Cs:=tns zHO) kI (fun v W hb h=>(yL hv8 h (s.up hb))) (fun _=>rfl))<|oc (z5 .i64 ((tns zHO).length:Int) 2 false iiz iiz (by rfl) rfl)<|oc zC<|oc (zF 15 false kI iiz (fun _=>zC) arf)<|oc (zF 15 false kI iiz (fun _=>y7 (z:=18) (Cs:=tns zOu) kI (fun v W hb h=>(yL hv11 h (s.up hb))) (fun _=>rfl)) arf)<|oc (zF 15 false kI iiz (fun _=>z5 .i64 ((tns zOu).length:Int) 1 false iiz iiz (by rfl) rfl) arf)<|oc (qX false iiz (fun e=>by cases e) fO)<|zE) fun a w4 s=> ?_
 refine zA rfl ?_
 refine StS.cond s false iiz (fun e=>by cases e) (fun e=> ?_)
 refine zVd ?_
 refine zVb ?_
 refine yD 6 ((20, .s (SF.row 1 (zDe [0,2,0,0,2,0])))::(21, .s (wE w4 30 6 (pns (zCo zQp 3))))::(22, .s (SF.row 1 (zDe [2,0,2,2,0,2])))::(23, .s (wE w4 30 6 (pns (zCo zQo 3))))::(24, .s (SF.row 1 (zDe [0,0,2,0,0,2])))::(25, .s (wE w4 30 6 (pns (zCo zOy 3)))):: []) hmix s kI
  (oc (zEv _ _ _ _ _ _ iiz)<|oc (zH zD zLv (fun u0 W hb (h0:(SF.row 1 (zDe [0,2,0,0,2,0])).p u0 W)=>(zEq (L:=zQp) h0 (zE8 dB).ok dB).mono (wD (qQ hb.size))))<|oc (zEv _ _ _ _ _ _ iiz)<|oc (zH zD zLv (fun u0 W hb (h0:(SF.row 1 (zDe [2,0,2,2,0,2])).p u0 W)=>(zEq (L:=zQo) h0 (zE8 dB).ok dB).mono (wD (qQ hb.size))))<|oc (zEv _ _ _ _ _ _ iiz)<|oc (zH zD zLv (fun u0 W hb (h0:(SF.row 1 (zDe [0,0,2,0,0,2])).p u0 W)=>(zEq (L:=zOy) h0 (zE8 dB).ok dB).mono (wD (qQ hb.size))))<|zE) fun a w5 s hr=> ?_
 obtain ⟨v21,e21⟩: ∃v,a.tmps.getD 21 undef=v:=⟨_,rfl⟩
 have hv21:(SF.row 6 (pns (zCo zQp 3))).p v21 w5:=e21▸jR _ _ (hr (_,_) mz1)
 replace s:=s.learn 21 v21 e21
 obtain ⟨v23,e23⟩: ∃v,a.tmps.getD 23 undef=v:=⟨_,rfl⟩
 have hv23:(SF.row 6 (pns (zCo zQo 3))).p v23 w5:=e23▸jR _ _ (hr (_,_) mz3)
 replace s:=s.learn 23 v23 e23
 obtain ⟨v25,e25⟩: ∃v,a.tmps.getD 25 undef=v:=⟨_,rfl⟩
 have hv25:(SF.row 6 (pns (zCo zOy 3))).p v25 w5:=e25▸jR _ _ (hr (_,_) mz5)
 replace s:=s.learn 25 v25 e25
 have hb2:=s.below
 replace hT:=hT.below hb2
 replace hv8:=(SF.row 18 _).st _ _ _ hv8 hb2
 replace hv11:=(SF.row 18 _).st _ _ _ hv11 hb2
 replace s:=s.reb rfl [(25, .u (UF.eq v25)),(23, .u (UF.eq v23)),(21, .u (UF.eq v21)),(19, .u (uB false)),(2, .u (UF.eq v11)),(11, .u (UF.eq v11)),(1, .u (UF.eq v8)),(8, .u (UF.eq v8)),(0, .u (uB false))] (fmz ⟨.inl (.head _),fmz ⟨.inl mz1,fmz ⟨.inl mz2,fmz ⟨.inl mz3,fmz ⟨.inl mz4,fmz ⟨.inl mz5,fmz ⟨.inl mz6,fmz ⟨.inl mz7,fmz ⟨.inl mz8,fnz⟩⟩⟩⟩⟩⟩⟩⟩⟩)
 refine qN (UF.eq v21) rfl s kI iiz fun a w s=> ?_
 refine qN (UF.eq v23) rfl s kI iiz fun a w s=> ?_
 refine qN (UF.eq v25) rfl s kI iiz fun a w s=> ?_
 refine zA rfl ?_
 refine zVb ?_
 replace s:=s.drop [0]
 refine zB 57 ((26, .Z (UF.eq v8))::(27, .Z (UF.eq v21))::(28, .Y (fPN (((0:Int):Rat),((2:Int):Rat))))::(29, .Z (fPN (((0:Int):Rat),((2:Int):Rat))))::(30, .Z (UF.eq v21))::(31, .Y (fPN (((0:Int):Rat),((0:Int):Rat))))::(32, .Z (fPN (((0:Int):Rat),((0:Int):Rat))))::(33, .Z (UF.eq v21))::(34, .Y (fPN (((2:Int):Rat),((0:Int):Rat))))::(35, .Z (fPN (((2:Int):Rat),((0:Int):Rat))))::(36, .Z (fTN zQg))::(37, .Z (UF.eq v23))::(38, .Y (fPN (((2:Int):Rat),((0:Int):Rat))))::(39, .Z (fPN (((2:Int):Rat),((0:Int):Rat))))::(40, .Z (UF.eq v23))::(41, .Y (fPN (((2:Int):Rat),((2:Int):Rat))))::(42, .Z (fPN (((2:Int):Rat),((2:Int):Rat))))::(43, .Z (UF.eq v23))::(44, .Y (fPN (((0:Int):Rat),((2:Int):Rat))))::(45, .Z (fPN (((0:Int):Rat),((2:Int):Rat))))::(46, .Z (fTN zQf))::(47, .s (SF.row 18 (tns [zQg,zQf])))::(48, .Z (uB true))::(49, .Z (uB true))::(50, .Z (UF.eq v11))::(51, .Z (UF.eq v25))::(52, .Y (fPN (((0:Int):Rat),((0:Int):Rat))))::(53, .Z (fPN (((0:Int):Rat),((0:Int):Rat))))::(54, .Z (UF.eq v25))::(55, .Y (fPN (((2:Int):Rat),((0:Int):Rat))))::(56, .Z (fPN (((2:Int):Rat),((0:Int):Rat))))::(57, .Z (UF.eq v25))::(58, .Y (fPN (((0:Int):Rat),((2:Int):Rat))))::(59, .Z (fPN (((0:Int):Rat),((2:Int):Rat))))::(60, .Z (fTN zIZ))::(61, .s (SF.row 18 (tns [zIZ])))::(62, .Z (uB true))::(63, .Z (uB true))::(64, .Z (uB true))::(65, .Z (UF.eq v8))::(66, .Z (fQN (arK zHO 2)))::(67, .Z (fQN ((8:Int):Rat)))::(68, .Z (uB true))::(69, .Z (uB true))::(70, .Z (uB true))::(71, .Z (UF.eq v11))::(72, .Y (fTN zIZ))::(73, .Z (fTN zIZ))::(74, .Z (fPN (((1:Int):Rat),((1:Int):Rat))))::(75, .Z (uI 0))::(76, .Z (uB true))::(77, .Z (uB true))::(78, .Z (uB true))::(79, .Z (UF.eq v25))::(80, .Z (uB true))::(81, .Z (uB true))::(0, .u (uB true)):: []) hmix s kI
  (oc zC<|oc zC<|oc (zZ (z:=6) (Cs:=pns (zCo zQp 3)) (i:=0) (C:=CU.agg (fPN (((0:Int):Rat),((2:Int):Rat)))) kI rfl (fun v W hb h=>(yL hv21 h (s.up hb))) iiz)<|oc (zR (f:=fPN (((0:Int):Rat),((2:Int):Rat))) 6 kI (hz:=yP _ _))<|oc zC<|oc (zZ (z:=6) (Cs:=pns (zCo zQp 3)) (i:=1) (C:=CU.agg (fPN (((0:Int):Rat),((0:Int):Rat)))) kI rfl (fun v W hb h=>(yL hv21 h (s.up hb))) iiz)<|oc (zR (f:=fPN (((0:Int):Rat),((0:Int):Rat))) 6 kI (hz:=yP _ _))<|oc zC<|oc (zZ (z:=6) (Cs:=pns (zCo zQp 3)) (i:=2) (C:=CU.agg (fPN (((2:Int):Rat),((0:Int):Rat)))) kI rfl (fun v W hb h=>(yL hv21 h (s.up hb))) iiz)<|oc (zR (f:=fPN (((2:Int):Rat),((0:Int):Rat))) 6 kI (hz:=yP _ _))<|oc (zAJ (fun u v q W (hu:(fPN (((0:Int):Rat),((2:Int):Rat))).p u W) (hv:(fPN (((0:Int):Rat),((0:Int):Rat))).p v W) (hq:(fPN (((2:Int):Rat),((0:Int):Rat))).p q W)=>zR2 (t:=zQg) hu hv hq))<|oc zC<|oc (zZ (z:=6) (Cs:=pns (zCo zQo 3)) (i:=0) (C:=CU.agg (fPN (((2:Int):Rat),((0:Int):Rat)))) kI rfl (fun v W hb h=>(yL hv23 h (s.up hb))) iiz)<|oc (zR (f:=fPN (((2:Int):Rat),((0:Int):Rat))) 6 kI (hz:=yP _ _))<|oc zC<|oc (zZ (z:=6) (Cs:=pns (zCo zQo 3)) (i:=1) (C:=CU.agg (fPN (((2:Int):Rat),((2:Int):Rat)))) kI rfl (fun v W hb h=>(yL hv23 h (s.up hb))) iiz)<|oc (zR (f:=fPN (((2:Int):Rat),((2:Int):Rat))) 6 kI (hz:=yP _ _))<|oc zC<|oc (zZ (z:=6) (Cs:=pns (zCo zQo 3)) (i:=2) (C:=CU.agg (fPN (((0:Int):Rat),((2:Int):Rat)))) kI rfl (fun v W hb h=>(yL hv23 h (s.up hb))) iiz)<|oc (zR (f:=fPN (((0:Int):Rat),((2:Int):Rat))) 6 kI (hz:=yP _ _))<|oc (zAJ (fun u v q W (hu:(fPN (((2:Int):Rat),((0:Int):Rat))).p u W) (hv:(fPN (((2:Int):Rat),((2:Int):Rat))).p v W) (hq:(fPN (((0:Int):Rat),((2:Int):Rat))).p q W)=>zR2 (t:=zQf) hu hv hq))<|oc (yC (fun u v W (hu:(fTN zQg).p u W) (hv:(fTN zQf).p v W)=>zQH hu hv))<|oc (zM zD zRL (fun u0 u1 W hb (h0:u0=v8) (h1:(SF.row 18 (tns [zQg,zQf])).p u1 W)=>zEZ (ts:=zHO) (yL hv8 h0 (s.up hb)) h1 dB))<|oc zC<|oc (zF 49 true kI iiz (fun _=>zC) arf)<|oc (zF 49 true kI iiz (fun _=>zC) arf)<|oc (zF 49 true kI iiz (fun _=>zZ (z:=6) (Cs:=pns (zCo zOy 3)) (i:=0) (C:=CU.agg (fPN (((0:Int):Rat),((0:Int):Rat)))) kI rfl (fun v W hb h=>(yL hv25 h (s.up hb))) iiz) arf)<|oc (zF 49 true kI iiz (fun _=>zR (f:=fPN (((0:Int):Rat),((0:Int):Rat))) 6 kI (hz:=yP _ _)) arf)<|oc (zF 49 true kI iiz (fun _=>zC) arf)<|oc (zF 49 true kI iiz (fun _=>zZ (z:=6) (Cs:=pns (zCo zOy 3)) (i:=1) (C:=CU.agg (fPN (((2:Int):Rat),((0:Int):Rat)))) kI rfl (fun v W hb h=>(yL hv25 h (s.up hb))) iiz) arf)<|oc (zF 49 true kI iiz (fun _=>zR (f:=fPN (((2:Int):Rat),((0:Int):Rat))) 6 kI (hz:=yP _ _)) arf)<|oc (zF 49 true kI iiz (fun _=>zC) arf)<|oc (zF 49 true kI iiz (fun _=>zZ (z:=6) (Cs:=pns (zCo zOy 3)) (i:=2) (C:=CU.agg (fPN (((0:Int):Rat),((2:Int):Rat)))) kI rfl (fun v W hb h=>(yL hv25 h (s.up hb))) iiz) arf)<|oc (zF 49 true kI iiz (fun _=>zR (f:=fPN (((0:Int):Rat),((2:Int):Rat))) 6 kI (hz:=yP _ _)) arf)<|oc (zF 49 true kI iiz (fun _=>zAJ (fun u v q W (hu:(fPN (((0:Int):Rat),((0:Int):Rat))).p u W) (hv:(fPN (((2:Int):Rat),((0:Int):Rat))).p v W) (hq:(fPN (((0:Int):Rat),((2:Int):Rat))).p q W)=>zR2 (t:=zIZ) hu hv hq)) arf)<|oc (zF 49 true kI iiz (fun _=>jP (fun u W (hu:(fTN zIZ).p u W)=>zJ1 hu)) arf)<|oc (zF 49 true kI iiz (fun _=>zM zD zRL (fun u0 u1 W hb (h0:u0=v11) (h1:(SF.row 18 (tns [zIZ])).p u1 W)=>zEZ (ts:=zOu) (yL hv11 h0 (s.up hb)) h1 dB)) arf)<|oc (qX true iiz fO (fun e=>by cases e))<|oc zC<|oc (zF 64 true kI iiz (fun _=>zC) arf)<|oc (zF 64 true kI iiz (fun _=>zH zD zJo (fun u0 W hb (h0:u0=v8)=>zDE (ts:=zHO) (zOM zSn _ _ (yL hv8 h0 (s.up hb))) dB (hT.below (s.up hb)))) arf)<|oc (zF 64 true kI iiz (fun _=>zH zD zGX (fun u0 W hb (h0:u0= .int .i64 8)=>zDI _ h0 dB)) arf)<|oc (zF 64 true kI iiz (fun _=>zM zD zP2 (fun u0 u1 W hb (h0:QNp (arK zHO 2) u0 W) (h1:QNp ((8:Int):Rat) u1 W)=>(zFF (m:=200) (p:=arK zHO 2) (q:=((8:Int):Rat)) (wH h0 ((zG2 zSo 2 dB).mono dB)) (wH h1 ((qbz dB).mono dB)) dB dB).mono (wD (fun v W h=>by rw [ck3] at h;exact h)))) arf)<|oc (qX true iiz fO (fun e=>by cases e))<|oc zC<|oc (zF 70 true kI iiz (fun _=>zC) arf)<|oc (zF 70 true kI iiz (fun _=>zZ (z:=18) (Cs:=tns zOu) (i:=0) (C:=CU.agg (fTN zIZ)) kI rfl (fun v W hb h=>(yL hv11 h (s.up hb))) iiz) arf)<|oc (zF 70 true kI iiz (fun _=>zR (f:=fTN zIZ) 18 kI (hz:=zGe _)) arf)<|oc (zF 70 true kI iiz (fun _=>zM zD zRK (fun u0 u1 W hb (h0:u0= .int .i64 1) (h1:u1= .int .i64 1)=>zN2 h0 h1 dB dB)) arf)<|oc (zF 70 true kI iiz (fun _=>zM zD zLw (fun u0 u1 W hb (h0:(fTN zIZ).p u0 W) (h1:(fPN (((1:Int):Rat),((1:Int):Rat))).p u1 W)=>(zGY (m:=1) (t:=zIZ) (p:=(((1:Int):Rat),((1:Int):Rat))) (zMc zOQ h0) (zCG (qbz dB) (qbz dB) h1) dB dB (hT.below (s.up hb))).mono (wD (fun v W h=>by rw [ck4] at h;exact h)))) arf)<|oc (zF 70 true kI iiz (fun _=>z5 .i64 0 0 true iiz iiz (by rfl) rfl) arf)<|oc (qX true iiz fO (fun e=>by cases e))<|oc zC<|oc (zF 78 true kI iiz (fun _=>zC) arf)<|oc (zF 78 true kI iiz (fun _=>zM zD zRJ (fun u0 u1 W hb (h0:u0=v25) (h1:u1= .int .i64 0)=>(zOp (m:=1) (ps:=zCo zOy 3) (i:=0) (zFN dB _ _ (yL hv25 h0 (s.up hb))) h1 (by rw [zBp];decide) (by rw [zBp];decide) (by rw [zBp];decide) dB dB (hT.below (s.up hb))).mono (wD (fun v W h=>by rw [ck5] at h;exact h)))) arf)<|oc (qX true iiz fO (fun e=>by cases e))<|oc zG<|zE) fun a w6 s=> ?_
 refine zA rfl ?_
 refine zVf ?_
 exact vJ s (hb0.trans ((hb1.trans (hb2.mono hb1.size)).mono hb0.size)) rfl iiz
end Go.Proofs.Wd

namespace Go.Proofs.Wd
open Tryz
set_option maxRecDepth 100000
set_option maxHeartbeats 1000000
open Go.RowKit Lb
theorem zJJ {x:TX} (h:g16 x.l=false) {v:Wq} {W:Wp} (hv:x.u.p v W):(fTR 1 x.t).p v W:=by
 obtain ⟨a,b,c,e,h1,h2,h3⟩:=hv
 have hb:=(zNn h).2
 exact ⟨a,b,c,e,zE2 (hb _ fQ) h1,zE2 (hb _ fQ) h2,zE2 (hb _ fQ) h3⟩
theorem zBW {x:TX} (h:g16 x.l=false) (cs:List Wq) (W:Wp) (hc:(TX.cu x).p cs W):0+18<=cs.length/\(fTR 1 x.t).p (.agg ((cs.drop 0).take 18).toArray) W:=by
 obtain ⟨h1,h2⟩:=zMe cs W hc
 exact ⟨h1,zJJ h h2⟩
theorem zDo {x:TX} (h:g16 x.l=false) (cs:List Wq) (W:Wp) (hc:(TX.cu x).p cs W):0+6<=cs.length/\(fPV 1 x.t.1).p (.agg ((cs.drop 0).take 6).toArray) W:=by
 obtain ⟨h1,h2⟩:=zGg cs W hc
 exact ⟨h1,zE2 ((zNn h).2 _ fQ) h2⟩
theorem zHc {x:TX} (h:g16 x.l=false) (cs:List Wq) (W:Wp) (hc:(TX.cu x).p cs W):6+6<=cs.length/\(fPV 1 x.t.2.1).p (.agg ((cs.drop 6).take 6).toArray) W:=by
 obtain ⟨h1,h2⟩:=zH0 cs W hc
 exact ⟨h1,zE2 ((zNn h).2 _ fQ) h2⟩
theorem zFm {x:TX} (h:g16 x.l=false) (cs:List Wq) (W:Wp) (hc:(TX.cu x).p cs W):12+6<=cs.length/\(fPV 1 x.t.2.2).p (.agg ((cs.drop 12).take 6).toArray) W:=by
 obtain ⟨h1,h2⟩:=zFo cs W hc
 exact ⟨h1,zE2 ((zNn h).2 _ fQ) h2⟩
theorem zL7 {L:List TX} (h: ∀x,x∈L->g16 x.l=false) (v:Wq) (W:Wp) (hv:(SF.row 18 (txs L)).p v W):(SF.row 18 (trs 1 (tts L))).p v W:=
 zHp fQ (fun i C D hC hD cs W hh=>by
  have hi:i<L.length:=by have:=(zVC.1 hC).1;simpa using this
  rw [zVu,zVz hi] at hC
  rw [zVu,zVu,zVz hi] at hD
  cases hC;cases hD
  exact zJJ (h _ (List.getElem_mem hi)) hh) v W hv
abbrev zMA (t:V6):V6:=(t.2.1,t.2.2,t.1)
abbrev zFf (t:V6):V6:=(t.1,t.2.2,t.2.1)
theorem zOH (t:V6):trn (zMA t)=trn t:=by unfold trn zMA crs;grind
theorem zOI (t:V6):trn (zFf t)+trn t=0:=by unfold trn zFf crs;grind
abbrev QTH:Rat:=((1:Int):Rat) / ((3:Int):Rat)
abbrev abV (t:V6):V2:=(t.1.1+t.2.1.1,t.1.2+t.2.1.2)
abbrev zJx (t:V6):V2:=((abV t).1+t.2.2.1,(abV t).2+t.2.2.2)
abbrev mdV (t:V6):V2:=((zJx t).1*QTH,(zJx t).2*QTH)
abbrev aaV (t:V6):V2:=(t.1.1+t.1.1,t.1.2+t.1.2)
abbrev zKL (t:V6):V2:=((aaV t).1 - (mdV t).1,(aaV t).2 - (mdV t).2)
theorem zE0 (x:Rat):(qsg x x==0)=true:=by rw [beq_iff_eq];exact zQX.2 rfl
theorem zTA:QTH*3=1:=by
 unfold QTH
 rw [show ((3:Int):Rat)=(3:Rat) from rfl,show ((1:Int):Rat)=(1:Rat) from rfl]
 grind
theorem zOT {q:Rat} (h:decide (q.num.sign<=0)=false):0<q:=by
 have h:=zVj h
 rcases Int.sign_trichotomy q.num with k|k|k
 ·have:0<q.num:=Int.sign_eq_one_iff_pos.1 k
  have h1:0<=q:=Rat.num_nonneg.1 oP
  have h2:q≠0:=fun h0=>by rw [h0] at this;exact absurd this dB
  grind
 ·omega
 ·omega
theorem zPQ {t:V6} (h:0<trn t):zCQ t t.1=0:=by
 have e1:crs t.1 t.2.1 t.1=0:=zTd _ _
 have e2:crs t.2.1 t.2.2 t.1=trn t:=by unfold trn crs;grind
 have e3:crs t.2.2 t.1 t.1=0:=zTc _ _
 rw [zNk,e1,e2,e3]
 exact ⟨⟨Rat.le_refl,Rat.le_of_lt h,Rat.le_refl⟩, .inl rfl⟩
theorem zPP {t:V6} (h:0<trn t):zCQ t (mdV t)=1:=by
 have q:=zTA
 have e1:crs t.1 t.2.1 (mdV t)=QTH*trn t:=by unfold trn mdV zJx abV crs;generalize QTH=z at q ⊢;grind
 have e2:crs t.2.1 t.2.2 (mdV t)=QTH*trn t:=by unfold trn mdV zJx abV crs;generalize QTH=z at q ⊢;grind
 have e3:crs t.2.2 t.1 (mdV t)=QTH*trn t:=by unfold trn mdV zJx abV crs;generalize QTH=z at q ⊢;grind
 have hp:0<QTH*trn t:=Rat.mul_pos (by decide+kernel) h
 rw [zLh,e1,e2,e3]
 exact ⟨hp,hp,hp⟩
theorem zPO {t:V6} (h:0<trn t):zCQ t (zKL t)= -1:=by
 have q:=zTA
 have e1:crs t.1 t.2.1 (zKL t)= - (QTH*trn t):=by unfold trn zKL aaV mdV zJx abV crs;generalize QTH=z at q ⊢;grind
 have hp:0<QTH*trn t:=Rat.mul_pos (by decide+kernel) h
 have:zCQ t (zKL t)<0:=by
  rw [zLi,e1]
  left
  grind
 have:=zPN t (zKL t)
 omega
theorem zQd {t:V6} {v:Wq} {W:Wp} (h:(fQN (arK [t] [t].length)).p v W):(fQN (trn t)).p v W:=by
 have h':(fQN (arK [t] 1)).p v W:=h
 rw [zQc] at h'
 exact h'
theorem zTv {t:V6} {m:Nat} (h: ∀p,p∈tl t->QB p.1 m/\QB p.2 m): ∀p,p∈tl (zMA t)->QB p.1 m/\QB p.2 m:=fun p hp=>by
 simp only [tl,zVg,zVq,zVr] at hp h
 rcases hp with rfl|rfl|rfl
 ·exact h _ (.inr (.inl rfl))
 ·exact h _ (.inr (.inr rfl))
 ·exact h _ (.inl rfl)
theorem zIm:QB QTH 2:=(qbz (z:=1) dB).div (qbz (z:=3) dB)
theorem zQv {t:V6} {v:Wq} {W:Wp} (h:(fTR 1 t).p v W): ∀p,p∈tl t->QB p.1 1/\QB p.2 1:=by
 obtain ⟨a,b,c,e,h1,h2,h3⟩:=h
 intro p hp
 simp only [tl,zVg,zVq,zVr] at hp
 rcases hp with rfl|rfl|rfl
 ·exact zEN dB (v:= .agg a.toArray) h1
 ·exact zEN dB (v:= .agg b.toArray) h2
 ·exact zEN dB (v:= .agg c.toArray) h3
theorem zNQ {t:V6} {m:Nat} (h: ∀p,p∈tl t->QB p.1 m/\QB p.2 m): ∀p,p∈tl (zFf t)->QB p.1 m/\QB p.2 m:=fun p hp=>by
 simp only [tl,zVg,zVq,zVr] at hp h
 rcases hp with rfl|rfl|rfl
 ·exact h _ (.inl rfl)
 ·exact h _ (.inr (.inr rfl))
 ·exact h _ (.inr (.inl rfl))
theorem zJp {TS:List TX} {x:TX} {W:Wp} {l u:Wq} (hl0:(SF.row 18 (txs TS)).p l W) (hx0:(TX.u x).p u W) (hT:Tab W):Calls prog 5 #[l,u] W (Ret W (fB true).tS):=by
 refine yF [(UF.eq l).tS,(TX.u x).tS] func5 rfl kI ⟨rfl,hx0,trivial⟩ fun a s=> ?_
 replace s:=s.renew [(0, .u (UF.eq l)),(1, .u (TX.u x))] (fmz ⟨.inr ⟨_,rfl, .head _⟩,fmz ⟨.inr ⟨_,rfl,mz1⟩,fnz⟩⟩)
 refine zVb ?_
 refine zB 0 [] hmix s kI
  zE fun a w1 s=> ?_
 refine qD (TX.cu x) rfl s kI (fun v W h=>zNR h) fun b3 a w s=> ?_
 refine qN (uB false) rfl s kI iiz fun a w s=> ?_
 refine zA rfl ?_
 refine zVb ?_
 refine zVb ?_
 rcases Bool.eq_false_or_eq_true (decide (((txs TS).length:Int)>8)) with eN|eN
 ·refine zB 13 ((10, .Z (UF.eq l))::(11, .Z (uI ((txs TS).length:Int)))::(12, .Z (uB true))::(13, .Z (uB true))::(22, .u (uB true)):: []) hmix s kI
   (oc zC<|oc (y7 (z:=18) (Cs:=txs TS) kI (fun v W hb h=>(yL hl0 h (s.up hb))) (fun _=>rfl))<|oc (z5 .i64 ((txs TS).length:Int) 8 true iiz iiz eN rfl)<|oc zC<|oc (zF 13 true kI iiz (fun e=>by cases e) (fun _ _=>trivial))<|oc (zF 13 true kI iiz (fun e=>by cases e) (fun _ _=>trivial))<|oc (zF 13 true kI iiz (fun e=>by cases e) (fun _ _=>trivial))<|oc (zF 13 true kI iiz (fun e=>by cases e) (fun _ _=>trivial))<|oc (zF 13 true kI iiz (fun e=>by cases e) (fun _ _=>trivial))<|oc (zF 13 true kI iiz (fun e=>by cases e) (fun _ _=>trivial))<|oc (zF 13 true kI iiz (fun e=>by cases e) (fun _ _=>trivial))<|oc (zF 13 true kI iiz (fun e=>by cases e) (fun _ _=>trivial))<|oc (qX true iiz fO (fun e=>by cases e))<|zE) fun a w2 s=> ?_
  refine zA rfl ?_
  refine StS.cond s true iiz (fun e=> ?_) (fun e=>by cases e)
  refine zVb ?_
  replace s:=s.drop [4]
  refine zB 2 ((23, .Z (uB true))::(4, .u (uB true)):: []) hmix s kI
   (oc (zC5 zD zRy (fun W hb=>zEa (hT.below (s.up hb))))<|oc zG<|zE) fun a w3 s=> ?_
  refine zA rfl ?_
  refine zVf ?_
  exact wF s (t:=4) rfl iiz
 ·refine zB 13 ((10, .Z (UF.eq l))::(11, .Z (uI ((txs TS).length:Int)))::(12, .Z (uB false))::(13, .Z (uB false))::(14, .s (wC ((TX.cu x).cf.at 0)))::(15, .Z (PX.u x.1))::(16, .s (wC ((TX.cu x).cf.at 6)))::(17, .Z (PX.u x.2.1))::(18, .s (wC ((TX.cu x).cf.at 12)))::(19, .Z (PX.u x.2.2))::(20, .s (SF.row 6 (pxs [x.1,x.2.1,x.2.2])))::(21, .Z (uB (g16 [x.1,x.2.1,x.2.2])))::(22, .u (uB (g16 [x.1,x.2.1,x.2.2]))):: []) hmix s kI
   (oc zC<|oc (y7 (z:=18) (Cs:=txs TS) kI (fun v W hb h=>(yL hl0 h (s.up hb))) (fun _=>rfl))<|oc (z5 .i64 ((txs TS).length:Int) 8 false iiz iiz eN rfl)<|oc zC<|oc (zF 13 false kI iiz (fun _=>qE (C:=(TX.cu x).cf) 0 0 kI (fun _ _ h=>h.2) iiz) arf)<|oc (zF 13 false kI iiz (fun _=>zS (C:=(TX.cu x).cf) (k:=0) 6 kI (h:=zGg)) arf)<|oc (zF 13 false kI iiz (fun _=>qE (C:=(TX.cu x).cf) 1 6 kI (fun _ _ h=>h.2) iiz) arf)<|oc (zF 13 false kI iiz (fun _=>zS (C:=(TX.cu x).cf) (k:=6) 6 kI (h:=zH0)) arf)<|oc (zF 13 false kI iiz (fun _=>qE (C:=(TX.cu x).cf) 2 12 kI (fun _ _ h=>h.2) iiz) arf)<|oc (zF 13 false kI iiz (fun _=>zS (C:=(TX.cu x).cf) (k:=12) 6 kI (h:=zFo)) arf)<|oc (zF 13 false kI iiz (fun _=>zEw (fun u v q W (hu:(PX.u x.1).p u W) (hv:(PX.u x.2.1).p v W) (hq:(PX.u x.2.2).p q W)=>zNU hu hv hq)) arf)<|oc (zF 13 false kI iiz (fun _=>zH zD zTG (fun u0 W hb (h0:(SF.row 6 (pxs [x.1,x.2.1,x.2.2])).p u0 W)=>zIH (L:= [x.1,x.2.1,x.2.2]) h0)) arf)<|oc (qX false iiz (fun e=>by cases e) fO)<|zE) fun a w4 s=> ?_
  refine zA rfl ?_
  refine StS.cond s (g16 [x.1,x.2.1,x.2.2]) iiz (fun e=> ?_) (fun e=> ?_)
  ·refine zVb ?_
   replace s:=s.drop [4]
   refine zB 2 ((23, .Z (uB true))::(4, .u (uB true)):: []) hmix s kI
    (oc (zC5 zD zRy (fun W hb=>zEa (hT.below (s.up hb))))<|oc zG<|zE) fun a w5 s=> ?_
   refine zA rfl ?_
   refine zVf ?_
   exact wF s (t:=4) rfl iiz
  ·have ex:=e
   refine zVd ?_
   refine zVb ?_
   refine zVb ?_
   refine zB 1 ((5, .u (uI 0)):: []) hmix s kI
    (oc zG<|zE) fun a w6 s=> ?_
   refine zA rfl ?_
   refine zVe ?_
   refine zBh (fun i=>i<=TS.length/\ ∀(j:Nat) (y:TX),j<i->TS[j]?=some y->g16 y.l=false) (fun i=> [(0, .u (UF.eq l)),(5, .u (uI ((i:Nat):Int)))]) (fun i=>TS.length - i) (0:Nat) (⟨zVm _,fun j y hj=>absurd hj (zVD _)⟩) (s.keepK _ (fmz ⟨mz3,fmz ⟨.head _,fnz⟩⟩)) fun i a w hx s=> ?_
   have hx9:=hx
   refine zVb ?_
   refine zVb ?_
   refine zB 4 ((24, .Z (uI (i:Int)))::(25, .Z (UF.eq l))::(26, .Z (uI ((txs TS).length:Int)))::(27, .u (uB (decide ((i:Int)<((txs TS).length:Int))))):: []) hmix s kI
    (oc zC<|oc zC<|oc (y7 (z:=18) (Cs:=txs TS) kI (fun v W hb h=>(yL hl0 h (s.up hb))) (fun _=>rfl))<|oc (z5 .i64 (i:Int) ((txs TS).length:Int) (decide ((i:Int)<((txs TS).length:Int))) iiz iiz rfl rfl)<|zE) fun a w7 s=> ?_
   refine zA rfl ?_
   refine StS.cond s (decide ((i:Int)<((txs TS).length:Int))) iiz (fun e=> ?_) (fun e=> ?_)
   ·have hn8:TS.length<=8:=by have:=zVj eN;simp at this;omega
    have hi:i<TS.length:=by have:=zVl e;simp at this;omega
    obtain ⟨y,hyl⟩: ∃y,TS[i]?=some y:=⟨_,zVz hi⟩
    have hy_:(txs TS)[i]?=some (TX.cu y):=by rw [zVu,hyl];rfl
    refine zVd ?_
    refine zVb ?_
    refine zVe ?_
    refine zVb ?_
    refine zB 17 ((30, .Z (UF.eq l))::(31, .Z (uI (i:Int)))::(32, .s (wC (TX.cu y).cf))::(33, .s (wC ((TX.cu y).cf.at 0)))::(34, .Z (PX.u y.1))::(35, .Z (UF.eq l))::(36, .Z (uI (i:Int)))::(37, .s (wC (TX.cu y).cf))::(38, .s (wC ((TX.cu y).cf.at 6)))::(39, .Z (PX.u y.2.1))::(40, .Z (UF.eq l))::(41, .Z (uI (i:Int)))::(42, .s (wC (TX.cu y).cf))::(43, .s (wC ((TX.cu y).cf.at 12)))::(44, .Z (PX.u y.2.2))::(45, .s (SF.row 6 (pxs [y.1,y.2.1,y.2.2])))::(46, .u (uB (g16 [y.1,y.2.1,y.2.2]))):: []) hmix s kI
     (oc zC<|oc zC<|oc (zZ (z:=18) (Cs:=txs TS) (i:=i) (C:=TX.cu y) kI hy_ (fun v W hb h=>(yL hl0 h (s.up hb))) iiz)<|oc (qE (C:=(TX.cu y).cf) 0 0 kI iiz iiz)<|oc (zS (C:=(TX.cu y).cf) (k:=0) 6 kI (h:=zGg))<|oc zC<|oc zC<|oc (zZ (z:=18) (Cs:=txs TS) (i:=i) (C:=TX.cu y) kI hy_ (fun v W hb h=>(yL hl0 h (s.up hb))) iiz)<|oc (qE (C:=(TX.cu y).cf) 1 6 kI iiz iiz)<|oc (zS (C:=(TX.cu y).cf) (k:=6) 6 kI (h:=zH0))<|oc zC<|oc zC<|oc (zZ (z:=18) (Cs:=txs TS) (i:=i) (C:=TX.cu y) kI hy_ (fun v W hb h=>(yL hl0 h (s.up hb))) iiz)<|oc (qE (C:=(TX.cu y).cf) 2 12 kI iiz iiz)<|oc (zS (C:=(TX.cu y).cf) (k:=12) 6 kI (h:=zFo))<|oc (zEw (fun u v q W (hu:(PX.u y.1).p u W) (hv:(PX.u y.2.1).p v W) (hq:(PX.u y.2.2).p q W)=>zNU hu hv hq))<|oc (zH zD zTG (fun u0 W hb (h0:(SF.row 6 (pxs [y.1,y.2.1,y.2.2])).p u0 W)=>zIH (L:= [y.1,y.2.1,y.2.2]) h0))<|zE) fun a w8 s=> ?_
    refine zA rfl ?_
    refine StS.cond s (g16 [y.1,y.2.1,y.2.2]) iiz (fun e=> ?_) (fun e=> ?_)
    ·refine zVb ?_
     refine zB 2 ((47, .Z (uB true))::(4, .u (uB true)):: []) hmix s kI
      (oc (zC5 zD zRy (fun W hb=>zEa (hT.below (s.up hb))))<|oc zG<|zE) fun a w9 s=> ?_
     refine zA rfl ?_
     refine zVf ?_
     exact wF s (t:=4) rfl iiz
    ·refine zVd ?_
     refine yJ 2 ((28, .Z (uI (i:Int)))::(29, .u (uI ((i+1:Nat):Int))):: []) s kI
      (oc zC<|oc (yX .i64 (i:Int) 1 ((i+1:Nat):Int) iiz iiz (wrap64 _ _ oP oP))<|zE) fun a w10 s=> ?_
     replace s:=s.drop [5]
     refine qN (uI ((i+1:Nat):Int)) rfl s kI iiz fun a w s=> ?_
     refine zA rfl ?_
     exact ⟨i+1,⟨hi,fun j y' hj hy=>by rcases Nat.lt_or_eq_of_le (Nat.le_of_lt_succ hj) with h|h;exact hx9.2 j y' h hy;rw [h,hyl] at hy;cases hy;exact e⟩,(by show TS.length - (i+1)<TS.length - i;omega),s.keepK _ (fmz ⟨mz4,fmz ⟨.head _,fnz⟩⟩)⟩
   ·have hi:i=TS.length:=by have h7:=zVj e;have h8:=hx9.1;simp at h7;omega
    have hall: ∀y,y∈TS->g16 (TX.l y)=false:=fun y hy=>by
     obtain ⟨j,hj⟩:=List.getElem?_of_mem hy
     exact hx9.2 j y (by rw [hi];exact (zVC.1 hj).1) hj
    have hTS:=zL7 hall l W hl0
    have hn8:TS.length<=8:=by have:=zVj eN;simp at this;omega
    have htl:(tts TS).length=TS.length:=by simp
    have hn12:(tts TS).length<=12:=by omega
    have hxt:=zJJ ex hx0
    have hxq: ∀p,p∈tl x.t->QB p.1 1/\QB p.2 1:=zQv hxt
    have hq1:=hxq x.t.1 (by simp [tl])
    have hq2:=hxq x.t.2.1 (by simp [tl])
    have hq3:=hxq x.t.2.2 (by simp [tl])
    have hbA:QB (arK (tts TS) (tts TS).length) 200/\QB (arK (tts TS) (tts TS).length) 500:=⟨(zG2 (fun i hi=>zHV dB hTS hi) _ lr).mono oP,(zG2 (fun i hi=>zHV dB hTS hi) _ lr).mono oP⟩
    have hbt:QB (trn x.t) 200/\QB (trn x.t) 500:=⟨(zEV hxq).mono dB,(zEV hxq).mono dB⟩
    have hbo:QB (trn (zFf x.t)) 200/\QB (trn (zFf x.t)) 500:=⟨(zEV (zNQ hxq)).mono dB,(zEV (zNQ hxq)).mono dB⟩
    have hbS:QB (arK (tts TS) (tts TS).length) 500/\QB (arK (tts TS) (tts TS).length+trn x.t) 500:=⟨hbA.2,(hbA.1.add hbt.1).mono dB⟩
    have hbz:QB (trn x.t) 500/\QB (trn (zFf x.t)+trn x.t) 500:=⟨hbt.2,(hbo.1.add hbt.1).mono dB⟩
    have hq4:QB (abV x.t).1 3/\QB (abV x.t).2 3:=⟨(hq1.1.add hq2.1).mono dB,(hq1.2.add hq2.2).mono dB⟩
    have hq5:QB (zJx x.t).1 5/\QB (zJx x.t).2 5:=⟨(hq4.1.add hq3.1).mono dB,(hq4.2.add hq3.2).mono dB⟩
    have hq6:QB (mdV x.t).1 7/\QB (mdV x.t).2 7:=⟨(hq5.1.mul zIm).mono dB,(hq5.2.mul zIm).mono dB⟩
    have hq7:QB (aaV x.t).1 3/\QB (aaV x.t).2 3:=⟨(hq1.1.add hq1.1).mono dB,(hq1.2.add hq1.2).mono dB⟩
    have hq8:QB (zKL x.t).1 11/\QB (zKL x.t).2 11:=⟨(hq7.1.sub hq6.1).mono dB,(hq7.2.sub hq6.2).mono dB⟩
    refine zVk ?_
    refine zVb ?_
    refine zB 3 ((48, .Z (fTR 1 (x.t)))::(49, .s (SF.row 18 (trs 1 [x.t])))::(50, .u (fQN (trn x.t))):: []) hmix s kI
     (oc (zBO (C:=(TX.cu x).cf) 18 kI (fun _ _ h=>h.2) (zBW ex))<|oc (jP (fun u W (hu:(fTR 1 (x.t)).p u W)=>zH8 hu))<|oc (zH zD zJo (fun u0 W hb (h0:(SF.row 18 (trs 1 [x.t])).p u0 W)=>(zDE (ts:= [x.t]) h0 (by show 1<=12;decide) (hT.below (s.up hb))).mono (wD (fun v W h=>zQd h))))<|zE) fun a w11 s=> ?_
    refine yE (CU.len 3) (cs:=zR3) kI rfl s kI (fun W=>rfl) rfl fun b6 a w s=> ?_
    refine zU (CU.agg (fQN (trn x.t))) ((fQN (trn x.t)).tS) rfl s kI rfl rfl rfl iiz iiz yB fun a w s=> ?_
    refine zA rfl ?_
    refine zVb ?_
    refine zVb ?_
    have sb:=s;have so:=s.old;have sg:=s.gr.size
    refine zO6 (GW w) hmix s fun w12 hwb s=> ?_
    have hz:=hwb.size
    refine zKi [7,9] [0,1,2,3,4,7,9] ((51, .s (vC w12 38))::(52, .Z (UF.eq l))::(53, .s (wE w12 38 18 (trs 1 (tts TS))))::(54, .Z (fTR 1 (x.t)))::(55, .s (SF.row 18 (trs 1 [x.t])))::(58, .u (UF.eq l))::(60, .u (fQN (trn x.t))):: []) (zRk hwb) s kI
     (oc (zKO (z:=18) kI)<|oc zC<|oc (zPz (trs 1 (tts TS)) kI iiz (fun v W hb h=>(yL hTS h (s.up hb))) (zNL _ _) (by simp;omega))<|oc (zBO (C:=(TX.cu x).cf) 18 kI (fun _ _ h=>h.2) (zBW ex))<|oc (jP (fun u W (hu:(fTR 1 (x.t)).p u W)=>zH8 hu))<|oc zC<|oc (zR (f:=fQN (trn x.t)) 3 kI (hz:=y9 _))<|zE)
     (zIO rfl (zQj.c zPU hwb) (zIO rfl (zQj.c (zRn (c:=6) sb rfl kI (y9 _) (fun _ _ h=>h.1)) hwb) zLo)) fun a w13 hbw s hr=> ?_
    replace hwb:=hwb.trans (hbw.mono hwb.size)
    refine zME (i:=5) (x:= .tmp 53) (y:= .tmp 55) (trs 1 [x.t]) hwb s sg (zAs.mono (hr (_,_) mz2) hz) rfl (zG8 rfl) kI kI kI rfl (hr (_,_) mz4) (zNL _ _) (by simp;omega) so fun v56 a w14 hwb hN56 s=> ?_
    have hR56:=hN56.row
    rw [show trs 1 (tts TS)++trs 1 [x.t]=trs 1 (tts TS++ [x.t]) by simp [trs]] at hR56
    have hz:=hwb.size
    refine zKi [] [6,8,10,11,12,13,14,15,16,17,18,19,20,21,22,23,24,25,26,27,28,29,30,31,32,33,34,35,36,37,38,39,40,41,42,43] ((57, .Z (fQN (arK (tts TS) (tts TS).length+trn x.t)))::(59, .Z (fQN (arK (tts TS) (tts TS).length)))::(61, .s (SF.row 3 (rvs 200 [(arK (tts TS) (tts TS).length),(trn x.t)])))::(62, .Z (fQN ((arK (tts TS) (tts TS).length)+(trn x.t))))::(63, .Z (uB true))::(64, .Z (uB false))::(65, .Z (uB false))::(66, .s (wC ((TX.cu x).cf.at 6)))::(67, .Z (fPV 1 (x.t.2.1)))::(68, .s (wC ((TX.cu x).cf.at 12)))::(69, .Z (fPV 1 (x.t.2.2)))::(70, .s (wC ((TX.cu x).cf.at 0)))::(71, .Z (fPV 1 (x.t.1)))::(72, .Z (fTR 1 (zMA x.t)))::(73, .s (SF.row 18 (trs 1 [(zMA x.t)])))::(74, .Z (fQN (trn x.t)))::(75, .Z (fQN (trn x.t)))::(76, .Z (uB true))::(77, .Z (uB false))::(78, .Z (uB false))::(79, .Z (uB false))::(80, .s (wC ((TX.cu x).cf.at 0)))::(81, .Z (fPV 1 (x.t.1)))::(82, .s (wC ((TX.cu x).cf.at 12)))::(83, .Z (fPV 1 (x.t.2.2)))::(84, .s (wC ((TX.cu x).cf.at 6)))::(85, .Z (fPV 1 (x.t.2.1)))::(86, .Z (fTR 1 (zFf x.t)))::(87, .s (SF.row 18 (trs 1 [(zFf x.t)])))::(88, .Z (fQN (trn (zFf x.t))))::(89, .Z (fQN (trn x.t)))::(90, .s (SF.row 3 (rvs 200 [(trn (zFf x.t)),(trn x.t)])))::(91, .Z (fQN ((trn (zFf x.t))+(trn x.t))))::(92, .Z (uI 0))::(93, .Z (uB false))::(94, .u (uB false)):: []) (zRk hwb) s kI
     (oc (zH zD zJo (fun u0 W hb (h0:u0=v56)=>(zDE (ts:=tts TS++ [x.t]) (yL hR56 h0 hb) (by rw [zVG];simp only [List.length_singleton];omega) (hT.below (s.up hb))).mono (wD (fun v W h=>by rw [zNA] at h;exact h))))<|oc (zH zD zJo (fun u0 W hb (h0:u0=l)=>zDE (ts:=tts TS) (yL hTS h0 (s.up hb)) hn12 (hT.below (s.up hb))))<|oc (yC (fun u v W (hu:QNp (arK (tts TS) (tts TS).length) u W) (hv:QNp (trn x.t) v W)=>zEg (m:=200) (wH hu hbA.1) (wH hv hbt.1)))<|oc (zH zD zLx (fun u0 W hb (h0:(SF.row 3 (rvs 200 [(arK (tts TS) (tts TS).length),(trn x.t)])).p u0 W)=>zC1 (m:=200) (p:=(arK (tts TS) (tts TS).length)) (q:=(trn x.t)) h0 hbA.1 hbt.1 dB))<|oc (zM zD zP2 (fun u0 u1 W hb (h0:QNp (arK (tts TS) (tts TS).length+trn x.t) u0 W) (h1:QNp ((arK (tts TS) (tts TS).length)+(trn x.t)) u1 W)=>(zFF (m:=500) (p:=(arK (tts TS) (tts TS).length+trn x.t)) (q:=((arK (tts TS) (tts TS).length)+(trn x.t))) (wH h0 hbS.2) (wH h1 hbS.2) dB dB).mono (wD (fun v W h=>by rw [zE0] at h;exact h))))<|oc (zEx true iiz (fun _=>rfl))<|oc zC<|oc (zF 65 false kI iiz (fun _=>qE (C:=(TX.cu x).cf) 1 6 kI (fun _ _ h=>h.2) iiz) arf)<|oc (zF 65 false kI iiz (fun _=>zS (C:=(TX.cu x).cf) (k:=6) 6 kI (h:=zHc ex)) arf)<|oc (zF 65 false kI iiz (fun _=>qE (C:=(TX.cu x).cf) 2 12 kI (fun _ _ h=>h.2) iiz) arf)<|oc (zF 65 false kI iiz (fun _=>zS (C:=(TX.cu x).cf) (k:=12) 6 kI (h:=zFm ex)) arf)<|oc (zF 65 false kI iiz (fun _=>qE (C:=(TX.cu x).cf) 0 0 kI (fun _ _ h=>h.2) iiz) arf)<|oc (zF 65 false kI iiz (fun _=>zS (C:=(TX.cu x).cf) (k:=0) 6 kI (h:=zDo ex)) arf)<|oc (zF 65 false kI iiz (fun _=>zAJ (fun u v q W (hu:(fPV 1 (x.t.2.1)).p u W) (hv:(fPV 1 (x.t.2.2)).p v W) (hq:(fPV 1 (x.t.1)).p q W)=>zTf (m:=1) (t:=(zMA x.t)) hu hv hq)) arf)<|oc (zF 65 false kI iiz (fun _=>jP (fun u W (hu:(fTR 1 (zMA x.t)).p u W)=>zH8 hu)) arf)<|oc (zF 65 false kI iiz (fun _=>zH zD zJo (fun u0 W hb (h0:(SF.row 18 (trs 1 [(zMA x.t)])).p u0 W)=>(zDE (ts:= [zMA x.t]) h0 (by show 1<=12;decide) (hT.below (s.up hb))).mono (wD (fun v W h=>by have h':=zQd h;rw [zOH] at h';exact h')))) arf)<|oc (zF 65 false kI iiz (fun _=>zR (f:=fQN (trn x.t)) 3 kI (hz:=y9 _)) arf)<|oc (zF 65 false kI iiz (fun _=>zM zD zP2 (fun u0 u1 W hb (h0:QNp (trn x.t) u0 W) (h1:QNp (trn x.t) u1 W)=>(zFF (m:=500) (p:=(trn x.t)) (q:=(trn x.t)) (wH h0 hbt.2) (wH h1 hbt.2) dB dB).mono (wD (fun v W h=>by rw [zE0] at h;exact h)))) arf)<|oc (zF 65 false kI iiz (fun _=>zEx true iiz (fun _=>rfl)) arf)<|oc (qX false iiz (fun e=>by cases e) fO)<|oc zC<|oc (zF 79 false kI iiz (fun _=>qE (C:=(TX.cu x).cf) 0 0 kI (fun _ _ h=>h.2) iiz) arf)<|oc (zF 79 false kI iiz (fun _=>zS (C:=(TX.cu x).cf) (k:=0) 6 kI (h:=zDo ex)) arf)<|oc (zF 79 false kI iiz (fun _=>qE (C:=(TX.cu x).cf) 2 12 kI (fun _ _ h=>h.2) iiz) arf)<|oc (zF 79 false kI iiz (fun _=>zS (C:=(TX.cu x).cf) (k:=12) 6 kI (h:=zFm ex)) arf)<|oc (zF 79 false kI iiz (fun _=>qE (C:=(TX.cu x).cf) 1 6 kI (fun _ _ h=>h.2) iiz) arf)<|oc (zF 79 false kI iiz (fun _=>zS (C:=(TX.cu x).cf) (k:=6) 6 kI (h:=zHc ex)) arf)<|oc (zF 79 false kI iiz (fun _=>zAJ (fun u v q W (hu:(fPV 1 (x.t.1)).p u W) (hv:(fPV 1 (x.t.2.2)).p v W) (hq:(fPV 1 (x.t.2.1)).p q W)=>zTf (m:=1) (t:=(zFf x.t)) hu hv hq)) arf)<|oc (zF 79 false kI iiz (fun _=>jP (fun u W (hu:(fTR 1 (zFf x.t)).p u W)=>zH8 hu)) arf)<|oc (zF 79 false kI iiz (fun _=>zH zD zJo (fun u0 W hb (h0:(SF.row 18 (trs 1 [(zFf x.t)])).p u0 W)=>(zDE (ts:= [(zFf x.t)]) h0 (by show 1<=12;decide) (hT.below (s.up hb))).mono (wD (fun v W h=>zQd h)))) arf)<|oc (zF 79 false kI iiz (fun _=>zR (f:=fQN (trn x.t)) 3 kI (hz:=y9 _)) arf)<|oc (zF 79 false kI iiz (fun _=>yC (fun u v W (hu:QNp (trn (zFf x.t)) u W) (hv:QNp (trn x.t) v W)=>zEg (m:=200) (wH hu hbo.1) (wH hv hbt.1))) arf)<|oc (zF 79 false kI iiz (fun _=>zH zD zLx (fun u0 W hb (h0:(SF.row 3 (rvs 200 [(trn (zFf x.t)),(trn x.t)])).p u0 W)=>zC1 (m:=200) (p:=(trn (zFf x.t))) (q:=(trn x.t)) h0 hbo.1 hbt.1 dB)) arf)<|oc (zF 79 false kI iiz (fun _=>zH zD zRV (fun u0 W hb (h0:QNp ((trn (zFf x.t))+(trn x.t)) u0 W)=>(zIi (m:=500) (q:=((trn (zFf x.t))+(trn x.t))) (wH h0 hbz.2) dB).mono (wD (fun v W h=>by rw [zOI] at h;exact h)))) arf)<|oc (zF 79 false kI iiz (fun _=>z5 .i64 0 0 false iiz iiz dB rfl) arf)<|oc (qX false iiz (fun e=>by cases e) fO)<|zE)
     zLo fun a w15 hbw s hr=> ?_
    replace hwb:=hwb.trans (hbw.mono hwb.size)
    refine zMD kI ?_
    refine StS.cond s false iiz (fun e=>by cases e) (fun e=> ?_)
    refine zVd ?_
    refine zVb ?_
    refine zVb ?_
    refine zB 3 ((95, .Z (fQN (trn x.t)))::(96, .Z (uI ((trn x.t).num.sign)))::(97, .u (uB (decide ((trn x.t).num.sign<=0)))):: []) hmix s kI
     (oc (zR (f:=fQN (trn x.t)) 3 kI (hz:=y9 _))<|oc (zH zD zRV (fun u0 W hb (h0:QNp (trn x.t) u0 W)=>zIi (m:=500) (q:=trn x.t) (wH h0 hbt.2) dB))<|oc (z5 .i64 ((trn x.t).num.sign) 0 (decide ((trn x.t).num.sign<=0)) iiz iiz rfl rfl)<|zE) fun a w16 s=> ?_
    refine zA rfl ?_
    refine StS.cond s (decide ((trn x.t).num.sign<=0)) iiz (fun e=> ?_) (fun e=> ?_)
    ·refine zVb ?_
     refine zB 2 ((98, .Z (uB true))::(4, .u (uB true)):: []) hmix s kI
      (oc (zC5 zD zRy (fun W hb=>zEa (hT.below (s.up hb))))<|oc zG<|zE) fun a w17 s=> ?_
     refine zA rfl ?_
     refine zVf ?_
     exact wF s (t:=4) rfl iiz
    ·have hpos:=zOT e
     refine zVd ?_
     refine zVb ?_
     refine zB 6 ((100, .Z (fQN ((1:Int):Rat)))::(101, .Z (fQN ((3:Int):Rat)))::(102, .Z (zBm (fQN QTH) (uI 0)))::(99, .Z (zBm (fQN QTH) (uI 0)))::(103, .u (fQN QTH))::(104, .u (uI 0)):: []) hmix s kI
      (oc (zH zD zGX (fun u0 W hb (h0:u0= .int .i64 1)=>zDI _ h0 dB))<|oc (zH zD zGX (fun u0 W hb (h0:u0= .int .i64 3)=>zDI _ h0 dB))<|oc (zM zD zS9 (fun u0 u1 W hb (h0:QNp ((1:Int):Rat) u0 W) (h1:QNp ((3:Int):Rat) u1 W)=>(zPc (m:=1) (p:=((1:Int):Rat)) (q:=((3:Int):Rat)) (wH h0 (qbz dB)) (wH h1 (qbz dB)) dB dB).mono (wD (fun v W h=>by rw [if_neg (by decide+kernel)] at h;exact h))))<|oc zC<|oc (zBr (A:=(fQN QTH).tS) (B:=(uI 0).tS) iiz)<|oc (zBq (A:=(fQN QTH).tS) (B:=(uI 0).tS) iiz)<|zE) fun a w18 s=> ?_
     refine yE (CU.len 3) (cs:=zR3) kI rfl s kI (fun W=>rfl) rfl fun b7 a w s=> ?_
     refine zU (CU.agg (fQN QTH)) ((fQN QTH).tS) rfl s kI rfl rfl rfl iiz iiz yB fun a w s=> ?_
     refine qN (uI 0) rfl s kI iiz fun a w s=> ?_
     refine zA rfl ?_
     refine zVb ?_
     have so:=s.old;have sg:=s.gr
     refine zBi (fun i=> [].contains i) [⟨10,9,30, [.bool false, .slice none 0 0, .slice none 0 0, .bool false, .slice none 0 0, .slice none 0 0],wI w 30 (CU.len 6)⟩] 11 ((105, .s (wC ((TX.cu x).cf.at 0)))::(106, .Z (fPV 1 (x.t.1)))::(107, .s (wC ((TX.cu x).cf.at 6)))::(108, .Z (fPV 1 (x.t.2.1)))::(109, .Z (fPN (abV x.t)))::(110, .s (wC ((TX.cu x).cf.at 12)))::(111, .Z (fPV 1 (x.t.2.2)))::(112, .Z (fPN (zJx x.t)))::(113, .Z (fQN QTH))::(114, .u (fPN (mdV x.t)))::(9, .s (wI w 30 (CU.len 6))):: []) hmix s (fmz ⟨⟨by show 10<11;decide,zJv,⟨_,_,_,rfl⟩,by kernel_rfl,zB8 (fun _=>rfl) rfl⟩,fnz⟩) kI
      (oc (qE (C:=(TX.cu x).cf) 0 0 kI (fun _ _ h=>h.2) iiz)<|oc (zS (C:=(TX.cu x).cf) (k:=0) 6 kI (h:=zDo ex))<|oc (qE (C:=(TX.cu x).cf) 1 6 kI (fun _ _ h=>h.2) iiz)<|oc (zS (C:=(TX.cu x).cf) (k:=6) 6 kI (h:=zHc ex))<|oc (zM zD zP1 (fun u0 u1 W hb (h0:(fPV 1 (x.t.1)).p u0 W) (h1:(fPV 1 (x.t.2.1)).p u1 W)=>zHu (m:=30) (p:=x.t.1) (q:=x.t.2.1) (zBJ (p:=x.t.1) dB h0) (zBJ (p:=x.t.2.1) dB h1) ⟨hq1.1.mono dB,hq1.2.mono dB⟩ ⟨hq2.1.mono dB,hq2.2.mono dB⟩ dB))<|oc (qE (C:=(TX.cu x).cf) 2 12 kI (fun _ _ h=>h.2) iiz)<|oc (zS (C:=(TX.cu x).cf) (k:=12) 6 kI (h:=zFm ex))<|oc (zM zD zP1 (fun u0 u1 W hb (h0:(fPN (abV x.t)).p u0 W) (h1:(fPV 1 (x.t.2.2)).p u1 W)=>zHu (m:=30) (p:=(abV x.t)) (q:=x.t.2.2) (zCG (p:=(abV x.t)) (hq4.1.mono dB) (hq4.2.mono dB) h0) (zBJ (p:=x.t.2.2) dB h1) ⟨hq4.1.mono dB,hq4.2.mono dB⟩ ⟨hq3.1.mono dB,hq3.2.mono dB⟩ dB))<|oc (zR (f:=fQN QTH) 3 kI (hz:=y9 _))<|oc (zM zD zS8 (fun u0 u1 W hb (h0:(fPN (zJx x.t)).p u0 W) (h1:QNp QTH u1 W)=>zKp (m:=30) (p:=(zJx x.t)) (t:=QTH) (zCG (p:=(zJx x.t)) (hq5.1.mono dB) (hq5.2.mono dB) h0) (wH h1 (zIm.mono dB)) ⟨hq5.1.mono dB,hq5.2.mono dB⟩ (zIm.mono dB) dB))<|oc (zC7 (cs:=zP6) kI (zB8 (fun _=>rfl) rfl))<|zE) fun Q' hQ a w19 s hr hd=> ?_
     obtain ⟨b9,hB9,e9,s⟩:=s.adoptA false 9 (hr (_,_) zJv) sg (fun y hy=> .inl (so y hy))
     refine zU (CU.agg (fPN (mdV x.t))) ((fPN (mdV x.t)).tS) rfl s kI rfl rfl rfl iiz iiz jX fun a w s=> ?_
     refine zA rfl (hQ _ _ ?_)
     refine zVb ?_
     refine zB 31 ((115, .Z (uI 0))::(116, .Z (uB true))::(117, .Z (uB true))::(118, .Z (fTR 1 (x.t)))::(119, .s (wC ((TX.cu x).cf.at 0)))::(120, .Z (fPV 1 (x.t.1)))::(121, .Z (uI 0))::(122, .Z (uB true))::(123, .Z (uB true))::(124, .Z (uB true))::(125, .Z (fTR 1 (x.t)))::(126, .Z (fPN (mdV x.t)))::(127, .Z (uI 1))::(128, .Z (uB true))::(129, .Z (uB true))::(130, .Z (uB true))::(131, .Z (fTR 1 (x.t)))::(132, .s (wC ((TX.cu x).cf.at 0)))::(133, .Z (fPV 1 (x.t.1)))::(134, .s (wC ((TX.cu x).cf.at 0)))::(135, .Z (fPV 1 (x.t.1)))::(136, .Z (fPN (aaV x.t)))::(137, .Z (fPN (mdV x.t)))::(138, .Z (fPN (zKL x.t)))::(139, .Z (uI (-1)))::(140, .Z (uB true))::(141, .Z (uB true))::(142, .Z (uB true))::(143, .Z (uB true))::(144, .Z (uB true))::(4, .u (uB true)):: []) hmix s kI
      (oc zC<|oc (z5 .i64 0 0 true iiz iiz dB rfl)<|oc zC<|oc (zF 117 true kI iiz (fun _=>zBO (C:=(TX.cu x).cf) 18 kI (fun _ _ h=>h.2) (zBW ex)) arf)<|oc (zF 117 true kI iiz (fun _=>qE (C:=(TX.cu x).cf) 0 0 kI (fun _ _ h=>h.2) iiz) arf)<|oc (zF 117 true kI iiz (fun _=>zS (C:=(TX.cu x).cf) (k:=0) 6 kI (h:=zDo ex)) arf)<|oc (zF 117 true kI iiz (fun _=>zM zD zLw (fun u0 u1 W hb (h0:(fTR 1 (x.t)).p u0 W) (h1:(fPV 1 (x.t.1)).p u1 W)=>(zGY (m:=100) (t:=x.t) (p:=x.t.1) (zHf dB h0) (zBJ (p:=x.t.1) dB h1) dB dB (hT.below (s.up hb))).mono (wD (fun v W h=>by rw [zPQ hpos] at h;exact h)))) arf)<|oc (zF 117 true kI iiz (fun _=>z5 .i64 0 0 true iiz iiz dB rfl) arf)<|oc (qX true iiz fO (fun e=>by cases e))<|oc zC<|oc (zF 124 true kI iiz (fun _=>zBO (C:=(TX.cu x).cf) 18 kI (fun _ _ h=>h.2) (zBW ex)) arf)<|oc (zF 124 true kI iiz (fun _=>zR (f:=fPN (mdV x.t)) 6 kI (hz:=yP _ _)) arf)<|oc (zF 124 true kI iiz (fun _=>zM zD zLw (fun u0 u1 W hb (h0:(fTR 1 (x.t)).p u0 W) (h1:(fPN (mdV x.t)).p u1 W)=>(zGY (m:=100) (t:=x.t) (p:=(mdV x.t)) (zHf dB h0) (zCG (p:=(mdV x.t)) (hq6.1.mono dB) (hq6.2.mono dB) h1) dB dB (hT.below (s.up hb))).mono (wD (fun v W h=>by rw [zPP hpos] at h;exact h)))) arf)<|oc (zF 124 true kI iiz (fun _=>z5 .i64 1 1 true iiz iiz dB rfl) arf)<|oc (qX true iiz fO (fun e=>by cases e))<|oc zC<|oc (zF 130 true kI iiz (fun _=>zBO (C:=(TX.cu x).cf) 18 kI (fun _ _ h=>h.2) (zBW ex)) arf)<|oc (zF 130 true kI iiz (fun _=>qE (C:=(TX.cu x).cf) 0 0 kI (fun _ _ h=>h.2) iiz) arf)<|oc (zF 130 true kI iiz (fun _=>zS (C:=(TX.cu x).cf) (k:=0) 6 kI (h:=zDo ex)) arf)<|oc (zF 130 true kI iiz (fun _=>qE (C:=(TX.cu x).cf) 0 0 kI (fun _ _ h=>h.2) iiz) arf)<|oc (zF 130 true kI iiz (fun _=>zS (C:=(TX.cu x).cf) (k:=0) 6 kI (h:=zDo ex)) arf)<|oc (zF 130 true kI iiz (fun _=>zM zD zP1 (fun u0 u1 W hb (h0:(fPV 1 (x.t.1)).p u0 W) (h1:(fPV 1 (x.t.1)).p u1 W)=>zHu (m:=30) (p:=x.t.1) (q:=x.t.1) (zBJ (p:=x.t.1) dB h0) (zBJ (p:=x.t.1) dB h1) ⟨hq1.1.mono dB,hq1.2.mono dB⟩ ⟨hq1.1.mono dB,hq1.2.mono dB⟩ dB)) arf)<|oc (zF 130 true kI iiz (fun _=>zR (f:=fPN (mdV x.t)) 6 kI (hz:=yP _ _)) arf)<|oc (zF 130 true kI iiz (fun _=>zM zD zS7 (fun u0 u1 W hb (h0:(fPN (aaV x.t)).p u0 W) (h1:(fPN (mdV x.t)).p u1 W)=>zPa (m:=30) (p:=(aaV x.t)) (q:=(mdV x.t)) (zCG (p:=(aaV x.t)) (hq7.1.mono dB) (hq7.2.mono dB) h0) (zCG (p:=(mdV x.t)) (hq6.1.mono dB) (hq6.2.mono dB) h1) dB dB)) arf)<|oc (zF 130 true kI iiz (fun _=>zM zD zLw (fun u0 u1 W hb (h0:(fTR 1 (x.t)).p u0 W) (h1:(fPN (zKL x.t)).p u1 W)=>(zGY (m:=100) (t:=x.t) (p:=(zKL x.t)) (zHf dB h0) (zCG (p:=(zKL x.t)) (hq8.1.mono dB) (hq8.2.mono dB) h1) dB dB (hT.below (s.up hb))).mono (wD (fun v W h=>by rw [zPO hpos] at h;exact h)))) arf)<|oc (zF 130 true kI iiz (fun _=>z5 .i64 (-1) (-1) true iiz iiz dB rfl) arf)<|oc (qX true iiz fO (fun e=>by cases e))<|oc zC<|oc (zF 142 true kI iiz (fun _=>zC5 zD zRy (fun W hb=>zEa (hT.below (s.up hb)))) arf)<|oc (qX true iiz fO (fun e=>by cases e))<|oc zG<|zE) fun a w20 s=> ?_
     refine zA rfl ?_
     refine zVf ?_
     exact wF s (t:=4) rfl iiz
end Go.Proofs.Wd
