/- Walks of straitref08: Dot, Same; of straitref10: on, Put, ends; Walks  and what it needs. -/
import Derived.Test.YtdfhaibojmnmkaaGreatDoorMRO20
import Derived.Test.YtdfhaibojmnmkaaGreatDoorMRO13
namespace Go.Proofs.Wd
set_option maxRecDepth 100000
set_option maxHeartbeats 1000000
open Go.RowKit Lb
def zMP (p q:V2):Rat:=p.1*q.1+p.2*q.2
def onS (a b p:V2):Bool:=if ((crs a b p).num.sign !=0)=true then false else decide ((zMP (p.1 - a.1,p.2 - a.2) (p.1 - b.1,p.2 - b.2)).num.sign≤0)
theorem zTj {a b p:V2} (h:((crs a b p).num.sign !=0)=true):onS a b p=false:=if_pos h
theorem zTk {a b p:V2} (h:((crs a b p).num.sign !=0)=false):onS a b p=decide ((zMP (p.1 - a.1,p.2 - a.2) (p.1 - b.1,p.2 - b.2)).num.sign≤0):=if_neg (by rw [h];decide)
def zJI (f:Nat→Bool) (N:Nat):Nat:=match (List.range N).find? (fun k=> !(f k)) with|some k=>k|none=>N
theorem zKA {f:Nat→Bool} {N:Nat} (h: ∀j,j<N→f j=true):zJI f N=N:=by
 unfold zJI
 rw [List.find?_eq_none.2 (fun x hx=>by rw [h x (List.mem_range.1 hx)];simp)]
theorem zM5 {f:Nat→Bool} {N k:Nat} (hk:k<N) (h: ∀j,j<k→f j=true) (e:f k=false):zJI f N=k:=by
 unfold zJI
 have:(List.range N).find? (fun k=> !(f k))=some k:=by
  rw [List.find?_range_eq_some]
  exact ⟨by rw [e];rfl,List.mem_range.2 hk,fun j hj=>by rw [h j hj];rfl⟩
 rw [this]
def zMO (L:List V2) (p:V2):Nat:=zJI (fun k=>decide (zAT (at_ L k) p<0)) L.length
def zHT (L:List V2) (p:V2):List V2:=if (decide (zMO L p<L.length)&&(zAT (at_ L (zMO L p)) p==0))=true then L else L.take (zMO L p)++ [p]++L.drop (zMO L p)
theorem zRC {L:List V2} {p:V2} {k:Nat} (hk:zMO L p=k) (h:(decide (((k:Nat):Int)<(((pns L).length:Nat):Int))&&(zAT (at_ L k) p==0))=true):zHT L p=L:=by
 unfold zHT
 rw [hk]
 refine if_pos ?_
 rw [Bool.and_eq_true] at h ⊢
 exact ⟨decide_eq_true (by have:=of_decide_eq_true h.1;simp at this;omega),h.2⟩
theorem zRD {L:List V2} {p:V2} {k:Nat} (hk:zMO L p=k) (h:(decide (((k:Nat):Int)<(((pns L).length:Nat):Int))&&(zAT (at_ L k) p==0))=false):zHT L p=L.take k++ [p]++L.drop k:=by
 unfold zHT
 rw [hk]
 refine if_neg fun h'=> ?_
 rw [Bool.and_eq_true] at h'
 rw [Bool.and_eq_false_iff] at h
 rcases h with h|h
 ·have:=of_decide_eq_false h
  have:=of_decide_eq_true h'.1
  simp at*
  omega
 ·rw [h] at h';exact absurd h'.2 (by decide)
theorem zQg (L:List V2) (p:V2):zMO L p≤L.length:=by
 unfold zMO zJI
 split
 ·rename_i k h
  have:=List.mem_range.1 (List.mem_of_find?_eq_some h)
  omega
 ·exact Nat.le_refl _
theorem zNG (L:List V2) (p:V2):(zHT L p).length≤L.length+1:=by
 unfold zHT
 split
 ·omega
 ·have:=zQg L p
  simp
  omega
theorem zNF {L:List V2} {p x:V2} (h:x∈zHT L p):x=p∨x∈L:=by
 unfold zHT at h
 split at h
 ·exact .inr h
 ·rw [List.mem_append,List.mem_append,List.mem_singleton] at h
  rcases h with (h|h)|h
  ·exact .inr (List.mem_of_mem_take h)
  ·exact .inl h
  ·exact .inr (List.mem_of_mem_drop h)
def yO (a b c d:V2):Nat→List V2
 |0=> []
 |i+1=>if (onS a b (at_ [a,b,c,d] i)&&onS c d (at_ [a,b,c,d] i))=true then zHT (yO a b c d i) (at_ [a,b,c,d] i) else yO a b c d i
theorem zQE {a b c d:V2} {i:Nat} (h:(onS a b (at_ [a,b,c,d] i)&&onS c d (at_ [a,b,c,d] i))=true):yO a b c d (i+1)=zHT (yO a b c d i) (at_ [a,b,c,d] i):=if_pos h
theorem zQF {a b c d:V2} {i:Nat} (h:(onS a b (at_ [a,b,c,d] i)&&onS c d (at_ [a,b,c,d] i))=false):yO a b c d (i+1)=yO a b c d i:=if_neg (by rw [h];decide)
theorem zFb (a b c d:V2): ∀i,(yO a b c d i).length≤i
 |0=>Nat.le_refl _
 | i+1=>by
  have ih:=zFb a b c d i
  show (if _ then _ else _:List V2).length≤_
  split
  ·have:=zNG (yO a b c d i) (at_ [a,b,c,d] i)
   omega
  ·omega
theorem zJq {m:Nat} {a b c d:V2} (h: ∀p,p∈ [a,b,c,d]→QB p.1 m∧QB p.2 m): ∀i,i≤4→ ∀p,p∈yO a b c d i→QB p.1 m∧QB p.2 m
 |0,_,p,hp=>absurd hp List.not_mem_nil
 | i+1,hi,p,hp=>by
  have ih:=zJq h i (by omega)
  have hp':p∈(if (onS a b (at_ [a,b,c,d] i)&&onS c d (at_ [a,b,c,d] i))=true then zHT (yO a b c d i) (at_ [a,b,c,d] i) else yO a b c d i):=hp
  split at hp'
  ·rcases zNF hp' with e|e
   ·rw [e];exact h _ (zDB (by simp;omega))
   ·exact ih p e
  ·exact ih p hp'
def fRW (W0:World) (z:Nat) (Cs:List CU):UF:=⟨⟨fun v _=>(SF.row z Cs).p v W0,fun _ _ _ h _=>h⟩,fun _ _ _ h _=>h⟩
section
variable {F:Fence} {m:Nat} {P:Program} {w0:World} {ops:Array Oper} {G:Nat→SF} {d:Tmp} {ty:TypeId} {pos:String} {aft:Array Edge}
theorem zCQ {t e':TypeId} {ie:TypeInfo} {z:Nat} (hu:P.underlying t=some (.slice e')) (hie:P.info? e'=some ie) (hsz:ie.size=z) (A:Option Addr) (n c k:Nat) (hk:k≤n) (w:World):(Instr.sliceAt t (.slice A n c) (some (.int .i64 (k:Int))) none none).run P w= .ok (.slice (if c=k then A else A.map (·.add (k*z))) (n - k) (c - k)) w:=by
 simp [Instr.sliceAt,Instr.slice,Instr.sliceBounds,run_underlying hu,sizeOf,typeInfo,hie,hsz,go_sem,hk]
theorem zKP {t e':TypeId} {ie:TypeInfo} (hu:P.underlying t=some (.slice e')) (hie:P.info? e'=some ie) (A:Option Addr) (n c k:Nat) (hk:k≤c) (w:World):(Instr.sliceAt t (.slice A n c) none (some (.int .i64 (k:Int))) none).run P w= .ok (.slice A k c) w:=by
 simp [Instr.sliceAt,Instr.slice,Instr.sliceBounds,run_underlying hu,sizeOf,typeInfo,hie,go_sem,hk]
theorem zJZ {x lo:Operand} {t:TypeId} {z k:Nat} {Cs:List CU} (hz:jJ P t=some z) (hk:k≤Cs.length) (hx: ∀v W,Below w0.heap.size w0 W→(fct G x).p v W→(SF.row z Cs).p v W) (hh: ∀v W,(fct G lo).p v W→v= .int .i64 ((k:Nat):Int)) (hd: ∀v W,(SF.row z (Cs.drop k)).p v W→(G d).p v W:=by exact fun _ _ h=>h):qK F m P w0 ops G ⟨some d, .slice t x (some lo) none none,ty,pos,aft,none⟩:=
 qQ (fun _ e=>by cases e) (fun _ e=>by cases e) fun b W hb hp=>by
  obtain ⟨A,c,e,h2,h3,h4,h5⟩:=hx _ _ hb (hp x (by simp [Op.operands]))
  have e2:=hh _ _ (hp lo (by simp [Op.operands]))
  unfold jJ at hz
  split at hz<;>try cases hz
  rename_i e' hu
  obtain ⟨ie,hie,hsz⟩:=Option.map_eq_some_iff.1 hz
  refine ⟨.slice (if c=k then A else A.map (·.add (k*z))) (Cs.length - k) (c - k),by simp [execOp,e,e2,zCQ hu hie hsz A Cs.length c k hk],hd _ _ ⟨_,c - k,by rw [List.length_drop],by rw [List.length_drop];omega,by omega,fun hA=> ?_,fun i C hi=> ?_⟩⟩
  ·split at hA
   ·omega
   ·cases A with
    |none=>have:=h4 rfl;omega
    |some q=>cases hA
  ·rw [List.getElem?_drop] at hi
   have hlt:=(List.getElem?_eq_some_iff.1 hi).1
   obtain ⟨b',o,cs,rfl,h6,h7⟩:=h5 _ C hi
   rw [if_neg (by omega)]
   refine ⟨b',o+k*z,cs,by simp [Addr.add_lit], ?_,h7⟩
   rwa [show o+(k+i)*z=o+k*z+i*z by rw [Nat.add_mul];omega] at h6
theorem zI1 {x hi:Operand} {t:TypeId} {z k:Nat} {Cs:List CU} (hz:jJ P t=some z) (hk:k≤Cs.length) (hx: ∀v W,Below w0.heap.size w0 W→(fct G x).p v W→(SF.row z Cs).p v W) (hh: ∀v W,(fct G hi).p v W→v= .int .i64 ((k:Nat):Int)) (hd: ∀v W,(SF.row z (Cs.take k)).p v W→(G d).p v W:=by exact fun _ _ h=>h):qK F m P w0 ops G ⟨some d, .slice t x none (some hi) none,ty,pos,aft,none⟩:=
 qQ (fun _ e=>by cases e) (fun _ e=>by cases e) fun b W hb hp=>by
  obtain ⟨A,c,e,h2,h3,h4,h5⟩:=hx _ _ hb (hp x (by simp [Op.operands]))
  have e2:=hh _ _ (hp hi (by simp [Op.operands]))
  unfold jJ at hz
  split at hz<;>try cases hz
  rename_i e' hu
  obtain ⟨ie,hie,hsz⟩:=Option.map_eq_some_iff.1 hz
  have hkc:k≤c:=Nat.le_trans hk h2
  refine ⟨.slice A k c,by simp [execOp,e,e2,zKP hu hie A Cs.length c k hkc],hd _ _ ⟨A,c,by rw [List.length_take,Nat.min_eq_left hk],by rw [List.length_take];omega,h3,h4,fun i C hi=> ?_⟩⟩
  rw [List.getElem?_take] at hi
  split at hi
  ·exact h5 i C hi
  ·cases hi
theorem zHX {W0:World} {l0:Value} {x lo:Operand} {t:TypeId} {z k:Nat} {Cs:List CU} (hz:jJ P t=some z) (hk:k≤Cs.length) (hl:(SF.row z Cs).p l0 W0) (hx: ∀v W,(fct G x).p v W→v=l0) (hh: ∀v W,(fct G lo).p v W→v= .int .i64 ((k:Nat):Int)) (hd: ∀v W,(SF.row z (Cs.drop k)).p v W0→(G d).p v W):qK F m P w0 ops G ⟨some d, .slice t x (some lo) none none,ty,pos,aft,none⟩:=
 qQ (fun _ e=>by cases e) (fun _ e=>by cases e) fun b W hb hp=>by
  have e0:=hx _ _ (hp x (by simp [Op.operands]))
  obtain ⟨A,c,e,h2,h3,h4,h5⟩:=hl
  have e2:=hh _ _ (hp lo (by simp [Op.operands]))
  rw [e] at e0
  unfold jJ at hz
  split at hz<;>try cases hz
  rename_i e' hu
  obtain ⟨ie,hie,hsz⟩:=Option.map_eq_some_iff.1 hz
  refine ⟨.slice (if c=k then A else A.map (·.add (k*z))) (Cs.length - k) (c - k),by simp [execOp,e0,e2,zCQ hu hie hsz A Cs.length c k hk],hd _ _ ⟨_,c - k,by rw [List.length_drop],by rw [List.length_drop];omega,by omega,fun hA=> ?_,fun i C hi=> ?_⟩⟩
  ·split at hA
   ·omega
   ·cases A with
    |none=>have:=h4 rfl;omega
    |some q=>cases hA
  ·rw [List.getElem?_drop] at hi
   have hlt:=(List.getElem?_eq_some_iff.1 hi).1
   obtain ⟨b',o,cs,rfl,h6,h7⟩:=h5 _ C hi
   rw [if_neg (by omega)]
   refine ⟨b',o+k*z,cs,by simp [Addr.add_lit], ?_,h7⟩
   rwa [show o+(k+i)*z=o+k*z+i*z by rw [Nat.add_mul];omega] at h6
end
theorem zIc {P:Program} {w0:World} {ops:Array Oper} {G:Nat→SF} {d:Tmp} {ty:TypeId} {pos:String} {aft:Array Edge} {W0:World} {l0:Value} {x lo:Operand} {t:TypeId} {z k:Nat} {Cs:List CU} (hz:jJ P t=some z) (hk:k≤Cs.length) (hl:(SF.row z Cs).p l0 W0) (hx: ∀v W,(fct G x).p v W→v=l0) (hh: ∀v W,(fct G lo).p v W→v= .int .i64 ((k:Nat):Int)):zC3 P w0 ops G ⟨some d, .slice t x (some lo) none none,ty,pos,aft,none⟩:=
 zFa (fun _ e=>by cases e) fun b W _ hp=>by
  have e0:=hx _ _ (hp x (by simp [Op.operands]))
  obtain ⟨A,c,e,h2,h3,h4,h5⟩:=hl
  have e2:=hh _ _ (hp lo (by simp [Op.operands]))
  rw [e] at e0
  unfold jJ at hz
  split at hz<;>try cases hz
  rename_i e' hu
  obtain ⟨ie,hie,hsz⟩:=Option.map_eq_some_iff.1 hz
  exact ⟨.slice (if c=k then A else A.map (·.add (k*z))) (Cs.length - k) (c - k),fun W' _=>by simp [execOp,e0,e2,zCQ hu hie hsz A Cs.length c k hk]⟩
section
variable {S:Nat→Prop} {F:Fence} {m:Nat} {P:Program} {Q:Exit→Act→World→Prop} {w0:World} {K:List (Nat×KF)} {B:List Bx} {n:Nat} {ds:List Deferred} {a:Act} {w:World}
theorem zOD {ops:Array Oper} {k d:Nat} {x:Operand} {ty:TypeId} {pos:String} {aft:Array Edge} (f:UF) (ho:ops[k]?=some ⟨some d, .assign x,ty,pos,aft,none⟩) (h:StS S w0 K B n ds a w) (hf:zAr K B n d=true) (hx: ∀v W,(Wd.fct (jI K B) x).p v W→f.p v W)
  (fin: ∀a,StS S w0 ((d, .u f)::K) B n ds a w→zBm F m P ops Q (k+1) a w):zBm F m P ops Q k a w:=
 zBD ho rfl (zBX (fun _ e=>by cases e) (fun _ e=>by cases e) (W':=w) (v:=a.eval x) rfl (fin _ (h.set hf (Below.refl _ _) (hx _ _ (h.fct x)))))
end
theorem zNI (ps:List V2) (k:Nat):(pns ps).take k=pns (ps.take k):=by unfold pns;rw [List.map_take]
theorem zNJ (ps:List V2) (k:Nat):(pns ps).drop k=pns (ps.drop k):=by unfold pns;rw [List.map_drop]
theorem zLu (a b:List V2) (p:V2):pns a++pns [p]++pns b=pns (a++ [p]++b):=by simp [pns]
theorem zT8 (a1 a2 a3 a4 a5 a6 b1 b2 b3 b4 b5 b6 c1 c2 c3 c4 c5 c6 d1 d2 d3 d4 d5 d6:Value):yH Tryz.prog 22 4 [(0, .agg #[a1,a2,a3,a4,a5,a6]),(1, .agg #[b1,b2,b3,b4,b5,b6]),(2, .agg #[c1,c2,c3,c4,c5,c6]),(3, .agg #[d1,d2,d3,d4,d5,d6])]=some (30,#[a1,a2,a3,a4,a5,a6,b1,b2,b3,b4,b5,b6,c1,c2,c3,c4,c5,c6,d1,d2,d3,d4,d5,d6]):=by kernel_rfl
theorem zRP {cs:List Value} (h:cs.length=6): ∃u0 u1 u2 u3 u4 u5,cs= [u0,u1,u2,u3,u4,u5]:=by
 match cs,h with
 | [u0,u1,u2,u3,u4,u5],_=>exact ⟨u0,u1,u2,u3,u4,u5,rfl⟩
theorem zIT {f g:UF} {v:Value} {W:World} (h:(fPT f g).p v W): ∃u0 u1 u2 u3 u4 u5,v= .agg #[u0,u1,u2,u3,u4,u5]∧(CU.agg (fPT f g)).p [u0,u1,u2,u3,u4,u5] W:=by
 obtain ⟨vs,rfl,hl,_,_,hc⟩:=yR v W h
 obtain ⟨u0,u1,u2,u3,u4,u5,rfl⟩:=zRP hl
 exact ⟨u0,u1,u2,u3,u4,u5,rfl,hc⟩
theorem zRc {m:Nat} {p q r s:V2} {u v x y:Value} {W:World} (hu:(fPV m p).p u W) (hv:(fPV m q).p v W) (hx:(fPV m r).p x W) (hy:(fPV m s).p y W): ∃e cs,yH Tryz.prog 22 4 [(0,u),(1,v),(2,x),(3,y)]=some (e,cs)∧(SF.row 6 (pvs m [p,q,r,s])).p (.slice (some ⟨W.heap.size,0,none⟩) 4 4) (W.alloc (.cells cs e)):=by
 obtain ⟨a1,a2,a3,a4,a5,a6,rfl,ha⟩:=zIT hu
 obtain ⟨b1,b2,b3,b4,b5,b6,rfl,hb⟩:=zIT hv
 obtain ⟨c1,c2,c3,c4,c5,c6,rfl,hc⟩:=zIT hx
 obtain ⟨d1,d2,d3,d4,d5,d6,rfl,hd⟩:=zIT hy
 refine ⟨_,_,zT8 ..,zHJ (Cs:=pvs m [p,q,r,s]) (cs:= [a1,a2,a3,a4,a5,a6,b1,b2,b3,b4,b5,b6,c1,c2,c3,c4,c5,c6,d1,d2,d3,d4,d5,d6]) (by simp) fun i C hi=> ?_⟩
 have hlt:=(List.getElem?_eq_some_iff.1 hi).1
 simp at hlt
 rcases (by omega:i=0∨i=1∨i=2∨i=3) with rfl|rfl|rfl|rfl
 ·obtain rfl:CU.agg (fPV m p)=C:=by simpa using hi
  exact ⟨_,fun j u hj=>by have:=(List.getElem?_eq_some_iff.1 hj).1;simp at this;rcases (by omega:j=0∨j=1∨j=2∨j=3∨j=4∨j=5) with rfl|rfl|rfl|rfl|rfl|rfl<;>simpa using hj,ha⟩
 ·obtain rfl:CU.agg (fPV m q)=C:=by simpa using hi
  exact ⟨_,fun j u hj=>by have:=(List.getElem?_eq_some_iff.1 hj).1;simp at this;rcases (by omega:j=0∨j=1∨j=2∨j=3∨j=4∨j=5) with rfl|rfl|rfl|rfl|rfl|rfl<;>simpa using hj,hb⟩
 ·obtain rfl:CU.agg (fPV m r)=C:=by simpa using hi
  exact ⟨_,fun j u hj=>by have:=(List.getElem?_eq_some_iff.1 hj).1;simp at this;rcases (by omega:j=0∨j=1∨j=2∨j=3∨j=4∨j=5) with rfl|rfl|rfl|rfl|rfl|rfl<;>simpa using hj,hc⟩
 ·obtain rfl:CU.agg (fPV m s)=C:=by simpa using hi
  exact ⟨_,fun j u hj=>by have:=(List.getElem?_eq_some_iff.1 hj).1;simp at this;rcases (by omega:j=0∨j=1∨j=2∨j=3∨j=4∨j=5) with rfl|rfl|rfl|rfl|rfl|rfl<;>simpa using hj,hd⟩
theorem zLF {F:Fence} {m:Nat} {P:Program} {w0:World} {ops:Array Oper} {G:Nat→SF} {d:Tmp} {ty:TypeId} {pos:String} {aft:Array Edge} {t:TypeId} {x y z q:Operand} (h: ∀u v r s W,(fct G x).p u W→(fct G y).p v W→(fct G z).p r W→(fct G q).p s W→ ∃e cs,yH P t 4 [(0,u),(1,v),(2,r),(3,s)]=some (e,cs)∧(G d).p (.slice (some ⟨W.heap.size,0,none⟩) 4 4) (W.alloc (.cells cs e))):qK F m P w0 ops G ⟨some d, .buildSlice t 4 #[(0,x),(1,y),(2,z),(3,q)],ty,pos,aft,none⟩:=
 zEq fun b W hb hh=>by
  obtain ⟨e,cs,h1,h2⟩:=h _ _ _ _ W (hh x (by simp)) (hh y (by simp)) (hh z (by simp)) (hh q (by simp))
  exact ⟨e,cs,by simpa using h1,h2⟩
theorem zPW {M:Nat} {W:World} {u v:Value} {p q:V2} (h1:(fPV M p).p u W) (h2:(fPV M q).p v W) (hp:QB p.1 M∧QB p.2 M) (hq:QB q.1 M∧QB q.2 M) (hM:M≤495):Calls Tryz.prog 178 #[u,v] W (Ret W (fQN (zMP p q)).toSF):=by
 refine z7 [(fPV M p).toSF,(fPV M q).toSF] Tryz.func178 rfl (by kernel_rfl) ⟨h1,h2,trivial⟩ fun a s=> ?_
 refine wpIn_seq ?_
 refine zB 0 [] hmix s (by kernel_rfl)
  zE fun a w1 s=> ?_
 refine yJ (CU.agg (fPV M p)) rfl s (by kernel_rfl) (fun v W h=>yP h) fun b2 a w s=> ?_
 refine yJ (CU.agg (fPV M q)) rfl s (by kernel_rfl) (fun v W h=>yP h) fun b3 a w s=> ?_
 refine zY (CU.len 3) (cs:=zR3) (by kernel_rfl) rfl s (by kernel_rfl) (fun W=>rfl) rfl fun b4 a w s=> ?_
 refine zA rfl ?_
 refine wpIn_seq ?_
 refine yL [] 14 ((5, .s (SF.ptr ((CU.agg (fPV M p)).cf.at 0)))::(6, .s ((fRV M ((p).1)).toSF))::(7, .s (SF.ptr ((CU.agg (fPV M q)).cf.at 0)))::(8, .s ((fRV M ((q).1)).toSF))::(9, .s (SF.row 3 (rvs M [(p).1,(q).1])))::(10, .s ((fQN ((p).1*(q).1)).toSF))::(11, .s (SF.ptr ((CU.agg (fPV M p)).cf.at 3)))::(12, .s ((fRV M ((p).2)).toSF))::(13, .s (SF.ptr ((CU.agg (fPV M q)).cf.at 3)))::(14, .s ((fRV M ((q).2)).toSF))::(15, .s (SF.row 3 (rvs M [(p).2,(q).2])))::(16, .s ((fQN ((p).2*(q).2)).toSF))::(17, .s (SF.row 3 (rvs (M+M) [((p).1*(q).1),((p).2*(q).2)])))::(18, .u (fQN (((p).1*(q).1)+((p).2*(q).2)))):: []) hmix s (by kernel_rfl)
  (oc (zN (C:=(CU.agg (fPV M p)).cf) 0 (by kernel_rfl))<|oc (zX (C:=(CU.agg (fPV M p)).cf) (k:=0) 3 (by kernel_rfl) (h:=zFj))<|oc (zN (C:=(CU.agg (fPV M q)).cf) 0 (by kernel_rfl))<|oc (zX (C:=(CU.agg (fPV M q)).cf) (k:=0) 3 (by kernel_rfl) (h:=zFj))<|oc (yE (fun u v W (hu:RVp M ((p).1) u W) (hv:RVp M ((q).1) v W)=>zBI hu hv))<|oc (zI zD zHi (fun u0 W hb (h0:(SF.row 3 (rvs M [(p).1,(q).1])).p u0 W)=>zBz h0 hp.1 hq.1 (by omega)))<|oc (zN (C:=(CU.agg (fPV M p)).cf) 3 (by kernel_rfl))<|oc (zX (C:=(CU.agg (fPV M p)).cf) (k:=3) 3 (by kernel_rfl) (h:=zDM))<|oc (zN (C:=(CU.agg (fPV M q)).cf) 3 (by kernel_rfl))<|oc (zX (C:=(CU.agg (fPV M q)).cf) (k:=3) 3 (by kernel_rfl) (h:=zDM))<|oc (yE (fun u v W (hu:RVp M ((p).2) u W) (hv:RVp M ((q).2) v W)=>zBI hu hv))<|oc (zI zD zHi (fun u0 W hb (h0:(SF.row 3 (rvs M [(p).2,(q).2])).p u0 W)=>zBz h0 hp.2 hq.2 (by omega)))<|oc (yE (fun u v W (hu:QNp ((p).1*(q).1) u W) (hv:QNp ((p).2*(q).2) v W)=>zBI (QNp.rv hu (hp.1.mul hq.1)) (QNp.rv hv (hp.2.mul hq.2))))<|oc (zI zD zMk (fun u0 W hb (h0:(SF.row 3 (rvs (M+M) [((p).1*(q).1),((p).2*(q).2)])).p u0 W)=>zDc h0 (hp.1.mul hq.1) (hp.2.mul hq.2) (by omega)))<|zE) fun Q' hQ a w2 s=> ?_
 refine zV (CU.agg (fQN (((p).1*(q).1)+((p).2*(q).2)))) ((fQN (((p).1*(q).1)+((p).2*(q).2))).toSF) rfl s (by kernel_rfl) rfl rfl rfl iiz iiz yK fun a w s=> ?_
 refine zA rfl (hQ _ _ ?_)
 refine wpIn_ret ?_
 exact StS.resC s (CU.agg (fQN (p.1*q.1+p.2*q.2))) rfl (by kernel_rfl) rfl rfl (qX _) (fun cs W h=>h)
theorem zIN {m:Nat} {W:World} {u v:Value} {p q:V2} (h1:(fPV m p).p u W) (h2:(fPV m q).p v W) (hm:m≤990) (hm0:0<m):Calls Tryz.prog 53 #[u,v] W (Ret W (fB (zAT p q==0)).toSF):=by
 refine z7 [(fPV m p).toSF,(fPV m q).toSF] Tryz.func53 rfl (by kernel_rfl) ⟨h1,h2,trivial⟩ fun a s=> ?_
 refine wpIn_seq ?_
 refine zB 0 [] hmix s (by kernel_rfl)
  zE fun a w1 s=> ?_
 refine yJ (CU.agg (fPV m p)) rfl s (by kernel_rfl) (fun v W h=>yP h) fun b2 a w s=> ?_
 refine yJ (CU.agg (fPV m q)) rfl s (by kernel_rfl) (fun v W h=>yP h) fun b3 a w s=> ?_
 refine yU (UF.eq (.bool false)) rfl s (by kernel_rfl) iiz fun a w s=> ?_
 refine zA rfl ?_
 refine wpIn_seq ?_
 replace s:=s.drop [4]
 refine zB 5 ((5, .s ((fPV m p).toSF))::(6, .s ((fPV m q).toSF))::(7, .s ((UF.eq (.int .i64 (zAT p q))).toSF))::(8, .s ((UF.eq (.bool (zAT p q==0))).toSF))::(4, .u (UF.eq (.bool (zAT p q==0)))):: []) hmix s (by kernel_rfl)
  (oc (zK (f:=fPV m p) 6 (by kernel_rfl) (hz:=zP _ _))<|oc (zK (f:=fPV m q) 6 (by kernel_rfl) (hz:=zP _ _))<|oc (zH zD zR4 (fun u0 u1 W hb (h0:(fPV m p).p u0 W) (h1:(fPV m q).p u1 W)=>zK4 h0 h1 hm hm0))<|oc (zQ .i64 (zAT p q) 0 (zAT p q==0) iiz iiz rfl rfl)<|oc zG<|zE) fun a w2 s=> ?_
 refine zA rfl ?_
 refine wpIn_ret ?_
 exact StS.res1 s (t:=4) rfl iiz
theorem zFX {m M:Nat} {W:World} {u v x:Value} {ca cb p:V2} (h1:(fPV m ca).p u W) (h2:(fPV m cb).p v W) (h3:(fPV M p).p x W) (hmM:m≤M) (hm0:0<m) (hM:M+m+1≤495) (hM2:3*m+M+2≤990):Calls Tryz.prog 158 #[u,v,x] W (Ret W (fB (onS ca cb p)).toSF):=by
 have hqa:=zCh hm0 h1
 have hqb:=zCh hm0 h2
 have hqp:=zCh (by omega) h3
 refine z7 [(fPV m ca).toSF,(fPV m cb).toSF,(fPV M p).toSF] Tryz.func158 rfl (by kernel_rfl) ⟨h1,h2,h3,trivial⟩ fun a s=> ?_
 refine wpIn_seq ?_
 refine zB 0 [] hmix s (by kernel_rfl)
  zE fun a w1 s=> ?_
 refine yJ (CU.agg (fPV m ca)) rfl s (by kernel_rfl) (fun v W h=>yP h) fun b3 a w s=> ?_
 refine yJ (CU.agg (fPV m cb)) rfl s (by kernel_rfl) (fun v W h=>yP h) fun b4 a w s=> ?_
 refine yJ (CU.agg (fPV M p)) rfl s (by kernel_rfl) (fun v W h=>yP h) fun b5 a w s=> ?_
 refine yU (UF.eq (.bool false)) rfl s (by kernel_rfl) iiz fun a w s=> ?_
 refine zA rfl ?_
 refine wpIn_seq ?_
 refine wpIn_seq ?_
 refine zB 9 ((7, .s ((fPV m cb).toSF))::(8, .s ((fPV m ca).toSF))::(9, .s ((fPN ((cb).1 - (ca).1,(cb).2 - (ca).2)).toSF))::(10, .s ((fPV M p).toSF))::(11, .s ((fPV m ca).toSF))::(12, .s ((fPN ((p).1 - (ca).1,(p).2 - (ca).2)).toSF))::(13, .s ((fQN (crs ca cb p)).toSF))::(14, .s ((UF.eq (.int .i64 ((crs ca cb p).num.sign))).toSF))::(15, .u (UF.eq (.bool ((crs ca cb p).num.sign !=0)))):: []) hmix s (by kernel_rfl)
  (oc (zK (f:=fPV m cb) 6 (by kernel_rfl) (hz:=zP _ _))<|oc (zK (f:=fPV m ca) 6 (by kernel_rfl) (hz:=zP _ _))<|oc (zH zD zHj (fun u0 u1 W hb (h0:(fPV m cb).p u0 W) (h1:(fPV m ca).p u1 W)=>zCf (m:=m) (p:=cb) (q:=ca) h0 h1 (by omega) hm0))<|oc (zK (f:=fPV M p) 6 (by kernel_rfl) (hz:=zP _ _))<|oc (zK (f:=fPV m ca) 6 (by kernel_rfl) (hz:=zP _ _))<|oc (zH zD zHj (fun u0 u1 W hb (h0:(fPV M p).p u0 W) (h1:(fPV m ca).p u1 W)=>zCf (m:=M) (p:=p) (q:=ca) h0 (zCi (by omega) h1) (by omega) (by omega)))<|oc (zH zD zQI (fun u0 u1 W hb (h0:(fPN ((cb).1 - (ca).1,(cb).2 - (ca).2)).p u0 W) (h1:(fPN ((p).1 - (ca).1,(p).2 - (ca).2)).p u1 W)=>zJP (m:=2*m+1) (M:=M+m+1) (p:=((cb).1 - (ca).1,(cb).2 - (ca).2)) (q:=((p).1 - (ca).1,(p).2 - (ca).2)) (zBe (p:=((cb).1 - (ca).1,(cb).2 - (ca).2)) (m:=(M+m+1)) ((zHD hqb hqa).1.mono (by first|omega|decide)) ((zHD hqb hqa).2.mono (by first|omega|decide)) h0) (zBe (p:=((p).1 - (ca).1,(p).2 - (ca).2)) (m:=(M+m+1)) ((zAU hqp hqa).1.mono (by first|omega|decide)) ((zAU hqp hqa).2.mono (by first|omega|decide)) h1) (zHD hqb hqa) (zAU hqp hqa) (by omega) (by omega) (by omega)))<|oc (zI zD zQK (fun u0 W hb (h0:QNp (crs ca cb p) u0 W)=>zFV (m:=((2*m+1+(M+m+1))+(2*m+1+(M+m+1))+1)) (QNp.rv h0 (zSI hqa hqb hqp)) (by omega)))<|oc (zQ .i64 ((crs ca cb p).num.sign) 0 ((crs ca cb p).num.sign !=0) iiz iiz rfl rfl)<|zE) fun a w2 s=> ?_
 refine zA rfl ?_
 refine StS.cond s ((crs ca cb p).num.sign !=0) iiz (fun e=> ?_) (fun e=> ?_)
 ·refine wpIn_seq ?_
  replace s:=s.drop [6]
  refine zB 1 ((6, .u (UF.eq (.bool false))):: []) hmix s (by kernel_rfl)
   (oc zG<|zE) fun a w3 s=> ?_
  refine zA rfl ?_
  refine wpIn_ret ?_
  exact StS.res1 s (t:=6) rfl (fun v W h=>by rw [zTj e];exact h)
 ·refine wpIn_skip ?_
  refine wpIn_seq ?_
  replace s:=s.drop [6]
  refine zB 10 ((16, .s ((fPV M p).toSF))::(17, .s ((fPV m ca).toSF))::(18, .s ((fPN ((p).1 - (ca).1,(p).2 - (ca).2)).toSF))::(19, .s ((fPV M p).toSF))::(20, .s ((fPV m cb).toSF))::(21, .s ((fPN ((p).1 - (cb).1,(p).2 - (cb).2)).toSF))::(22, .s ((fQN (zMP ((p).1 - (ca).1,(p).2 - (ca).2) ((p).1 - (cb).1,(p).2 - (cb).2))).toSF))::(23, .s ((UF.eq (.int .i64 ((zMP ((p).1 - (ca).1,(p).2 - (ca).2) ((p).1 - (cb).1,(p).2 - (cb).2)).num.sign))).toSF))::(24, .s ((UF.eq (.bool (decide ((zMP ((p).1 - (ca).1,(p).2 - (ca).2) ((p).1 - (cb).1,(p).2 - (cb).2)).num.sign≤0)))).toSF))::(6, .u (UF.eq (.bool (decide ((zMP ((p).1 - (ca).1,(p).2 - (ca).2) ((p).1 - (cb).1,(p).2 - (cb).2)).num.sign≤0))))):: []) hmix s (by kernel_rfl)
   (oc (zK (f:=fPV M p) 6 (by kernel_rfl) (hz:=zP _ _))<|oc (zK (f:=fPV m ca) 6 (by kernel_rfl) (hz:=zP _ _))<|oc (zH zD zHj (fun u0 u1 W hb (h0:(fPV M p).p u0 W) (h1:(fPV m ca).p u1 W)=>zCf (m:=M) (p:=p) (q:=ca) h0 (zCi (by omega) h1) (by omega) (by omega)))<|oc (zK (f:=fPV M p) 6 (by kernel_rfl) (hz:=zP _ _))<|oc (zK (f:=fPV m cb) 6 (by kernel_rfl) (hz:=zP _ _))<|oc (zH zD zHj (fun u0 u1 W hb (h0:(fPV M p).p u0 W) (h1:(fPV m cb).p u1 W)=>zCf (m:=M) (p:=p) (q:=cb) h0 (zCi (by omega) h1) (by omega) (by omega)))<|oc (zH zD zSf (fun u0 u1 W hb (h0:(fPN ((p).1 - (ca).1,(p).2 - (ca).2)).p u0 W) (h1:(fPN ((p).1 - (cb).1,(p).2 - (cb).2)).p u1 W)=>zPW (M:=M+m+1) (p:=((p).1 - (ca).1,(p).2 - (ca).2)) (q:=((p).1 - (cb).1,(p).2 - (cb).2)) (zBe (p:=((p).1 - (ca).1,(p).2 - (ca).2)) (m:=(M+m+1)) ((zAU hqp hqa).1.mono (by first|omega|decide)) ((zAU hqp hqa).2.mono (by first|omega|decide)) h0) (zBe (p:=((p).1 - (cb).1,(p).2 - (cb).2)) (m:=(M+m+1)) ((zAU hqp hqb).1.mono (by first|omega|decide)) ((zAU hqp hqb).2.mono (by first|omega|decide)) h1) (zAU hqp hqa) (zAU hqp hqb) (by omega)))<|oc (zI zD zQK (fun u0 W hb (h0:QNp (zMP ((p).1 - (ca).1,(p).2 - (ca).2) ((p).1 - (cb).1,(p).2 - (cb).2)) u0 W)=>zFV (m:=((M+m+1)+(M+m+1)+((M+m+1)+(M+m+1))+1)) (QNp.rv h0 (((zAU hqp hqa).1.mul (zAU hqp hqb).1).add ((zAU hqp hqa).2.mul (zAU hqp hqb).2))) (by omega)))<|oc (zQ .i64 ((zMP ((p).1 - (ca).1,(p).2 - (ca).2) ((p).1 - (cb).1,(p).2 - (cb).2)).num.sign) 0 (decide ((zMP ((p).1 - (ca).1,(p).2 - (ca).2) ((p).1 - (cb).1,(p).2 - (cb).2)).num.sign≤0)) iiz iiz rfl rfl)<|oc zG<|zE) fun a w4 s=> ?_
  refine zA rfl ?_
  refine wpIn_ret ?_
  exact StS.res1 s (t:=6) rfl (fun v W h=>by rw [zTk e];exact h)
theorem zNy {m:Nat} {W:World} {l u:Value} {L:List V2} {p:V2} (hl:(SF.row 6 (pns L)).p l W) (h1:(fPV m p).p u W) (hqL: ∀x,x∈L→QB x.1 m∧QB x.2 m) (hm:m≤990) (hm0:0<m) (hn:L.length≤1000000):Calls Tryz.prog 177 #[l,u] W (Ret W (SF.row 6 (pns (zHT L p)))):=by
 refine z7 [(UF.eq l).toSF,(fPV m p).toSF] Tryz.func177 rfl (by kernel_rfl) ⟨rfl,h1,trivial⟩ fun a s=> ?_
 replace s:=s.renew [(0, .u (UF.eq l)),(1, .u (fPV m p))] (fmz ⟨.inr ⟨_,rfl, .head _⟩,fmz ⟨.inr ⟨_,rfl,mz1⟩,fnz⟩⟩)
 refine wpIn_seq ?_
 refine zB 0 [] hmix s (by kernel_rfl)
  zE fun a w1 s=> ?_
 refine yJ (CU.agg (fPV m p)) rfl s (by kernel_rfl) (fun v W h=>yP h) fun b3 a w s=> ?_
 refine yU (UF.eq (.slice none 0 0)) rfl s (by kernel_rfl) iiz fun a w s=> ?_
 refine zA rfl ?_
 refine wpIn_seq ?_
 refine zB 1 ((5, .u (UF.eq (.int .i64 0))):: []) hmix s (by kernel_rfl)
  (oc zG<|zE) fun a w2 s=> ?_
 refine zA rfl ?_
 refine wpIn_seq ?_
 refine wpIn_block ?_
 refine zC6 (fun k=>k≤L.length∧ ∀j,j<k→decide (zAT (at_ L j) p<0)=true) (fun k=> [(0, .u (UF.eq l)),(5, .u (UF.eq (.int .i64 ((k:Nat):Int))))]) (fun k=>L.length - k) (0:Nat) (⟨Nat.zero_le _,fun j hj=>absurd hj (Nat.not_lt_zero _)⟩) (s.keepK _ (fmz ⟨mz2,fmz ⟨.head _,fnz⟩⟩)) fun k a w hx s=> ?_
 refine wpIn_seq ?_
 refine wpIn_seq ?_
 refine zB 13 ((7, .s ((UF.eq (.int .i64 ((k:Nat):Int))).toSF))::(8, .s ((UF.eq l).toSF))::(9, .s ((UF.eq (.int .i64 (((pns L).length:Nat):Int))).toSF))::(10, .s ((UF.eq (.bool (decide (((k:Nat):Int)<(((pns L).length:Nat):Int))))).toSF))::(11, .s ((UF.eq (.bool (decide (((k:Nat):Int)<(((pns L).length:Nat):Int))))).toSF))::(12, .s (SF.imp ((decide (((k:Nat):Int)<(((pns L).length:Nat):Int)))=true) ((UF.eq l).toSF)))::(13, .s (SF.imp ((decide (((k:Nat):Int)<(((pns L).length:Nat):Int)))=true) ((UF.eq (.int .i64 ((k:Nat):Int))).toSF)))::(14, .s (SF.imp ((decide (((k:Nat):Int)<(((pns L).length:Nat):Int)))=true) (SF.ptr (CU.agg (fPN (at_ L k))).cf)))::(15, .s (SF.imp ((decide (((k:Nat):Int)<(((pns L).length:Nat):Int)))=true) ((fPN (at_ L k)).toSF)))::(16, .s (SF.imp ((decide (((k:Nat):Int)<(((pns L).length:Nat):Int)))=true) ((fPV m p).toSF)))::(17, .s (SF.imp ((decide (((k:Nat):Int)<(((pns L).length:Nat):Int)))=true) ((UF.eq (.int .i64 (zAT (at_ L k) p))).toSF)))::(18, .s (SF.imp ((decide (((k:Nat):Int)<(((pns L).length:Nat):Int)))=true) ((UF.eq (.bool (decide (zAT (at_ L k) p<0)))).toSF)))::(19, .u (UF.eq (.bool ((decide (((k:Nat):Int)<(((pns L).length:Nat):Int)))&&(decide (zAT (at_ L k) p<0)))))):: []) hmix s (by kernel_rfl)
  (oc zC<|oc zC<|oc (y6 (z:=6) (Cs:=pns L) (by kernel_rfl) (fun v W hb h=>(yW hl h (s.up hb))) (fun _=>rfl))<|oc (zQ .i64 ((k:Nat):Int) (((pns L).length:Nat):Int) (decide (((k:Nat):Int)<(((pns L).length:Nat):Int))) iiz iiz rfl rfl)<|oc zC<|oc (zF 11 (decide (((k:Nat):Int)<(((pns L).length:Nat):Int))) (by kernel_rfl) iiz (fun e=>zR [] ((UF.eq l).toSF) fnz (fun _ _ h _=>h) (by kernel_rfl) zC) (fun e W h=>absurd h e))<|oc (zF 11 (decide (((k:Nat):Int)<(((pns L).length:Nat):Int))) (by kernel_rfl) iiz (fun e=>zR [] ((UF.eq (.int .i64 ((k:Nat):Int))).toSF) fnz (fun _ _ h _=>h) (by kernel_rfl) zC) (fun e W h=>absurd h e))<|oc (zF 11 (decide (((k:Nat):Int)<(((pns L).length:Nat):Int))) (by kernel_rfl) iiz (fun e=>zR [(12,(UF.eq l).toSF),(13,(UF.eq (.int .i64 ((k:Nat):Int))).toSF)] (SF.ptr (CU.agg (fPN (at_ L k))).cf) (fmz ⟨fun v W h=>zJ (c:=(decide (((k:Nat):Int)<(((pns L).length:Nat):Int)))=true) (f:=(UF.eq l).toSF) e h,fmz ⟨fun v W h=>zJ (c:=(decide (((k:Nat):Int)<(((pns L).length:Nat):Int)))=true) (f:=(UF.eq (.int .i64 ((k:Nat):Int))).toSF) e h,fnz⟩⟩) (fun _ _ h _=>h) (by kernel_rfl) (jB (z:=6) (Cs:=pns L) (i:=k) (C:=CU.agg (fPN (at_ L k))) (by kernel_rfl) (zCS (by have:=of_decide_eq_true e;simp at this;omega)) (fun v W hb h=>(yW hl h (s.up hb))) iiz)) (fun e W h=>absurd h e))<|oc (zF 11 (decide (((k:Nat):Int)<(((pns L).length:Nat):Int))) (by kernel_rfl) iiz (fun e=>zR [(14,SF.ptr (CU.agg (fPN (at_ L k))).cf)] ((fPN (at_ L k)).toSF) (fmz ⟨fun v W h=>zJ (c:=(decide (((k:Nat):Int)<(((pns L).length:Nat):Int)))=true) (f:=SF.ptr (CU.agg (fPN (at_ L k))).cf) e h,fnz⟩) (fun _ _ h _=>h) (by kernel_rfl) (zK (f:=fPN (at_ L k)) 6 (by kernel_rfl) (hz:=zP _ _))) (fun e W h=>absurd h e))<|oc (zF 11 (decide (((k:Nat):Int)<(((pns L).length:Nat):Int))) (by kernel_rfl) iiz (fun e=>zR [] ((fPV m p).toSF) fnz (fun _ _ h _=>h) (by kernel_rfl) (zK (f:=fPV m p) 6 (by kernel_rfl) (hz:=zP _ _))) (fun e W h=>absurd h e))<|oc (zF 11 (decide (((k:Nat):Int)<(((pns L).length:Nat):Int))) (by kernel_rfl) iiz (fun e=>zR [(15,(fPN (at_ L k)).toSF),(16,(fPV m p).toSF)] ((UF.eq (.int .i64 (zAT (at_ L k) p))).toSF) (fmz ⟨fun v W h=>zJ (c:=(decide (((k:Nat):Int)<(((pns L).length:Nat):Int)))=true) (f:=(fPN (at_ L k)).toSF) e h,fmz ⟨fun v W h=>zJ (c:=(decide (((k:Nat):Int)<(((pns L).length:Nat):Int)))=true) (f:=(fPV m p).toSF) e h,fnz⟩⟩) (fun _ _ h _=>h) (by kernel_rfl) (zH zD zR4 (fun u0 u1 W hb (h0:(fPN (at_ L k)).p u0 W) (h1:(fPV m p).p u1 W)=>zK4 (m:=m) (p:=at_ L k) (q:=p) (zBe (p:=at_ L k) (m:=m) (hqL _ (zDB (l:=L) (i:=k) (by have:=of_decide_eq_true e;simp at this;omega))).1 (hqL _ (zDB (l:=L) (i:=k) (by have:=of_decide_eq_true e;simp at this;omega))).2 h0) h1 hm hm0))) (fun e W h=>absurd h e))<|oc (zF 11 (decide (((k:Nat):Int)<(((pns L).length:Nat):Int))) (by kernel_rfl) iiz (fun e=>zR [(17,(UF.eq (.int .i64 (zAT (at_ L k) p))).toSF)] ((UF.eq (.bool (decide (zAT (at_ L k) p<0)))).toSF) (fmz ⟨fun v W h=>zJ (c:=(decide (((k:Nat):Int)<(((pns L).length:Nat):Int)))=true) (f:=(UF.eq (.int .i64 (zAT (at_ L k) p))).toSF) e h,fnz⟩) (fun _ _ h _=>h) (by kernel_rfl) (zQ .i64 (zAT (at_ L k) p) 0 (decide (zAT (at_ L k) p<0)) iiz iiz rfl rfl)) (fun e W h=>absurd h e))<|oc (yF (decide (((k:Nat):Int)<(((pns L).length:Nat):Int))) iiz (fun e v W h=>jQ (zJ e h) e) (fun e v W h=>qY h e))<|zE) fun a w3 s=> ?_
 refine zA rfl ?_
 refine StS.cond s ((decide (((k:Nat):Int)<(((pns L).length:Nat):Int)))&&(decide (zAT (at_ L k) p<0))) iiz (fun e=> ?_) (fun e=> ?_)
 ·rw [Bool.and_eq_true] at e
  have hk:k<L.length:=by have:=of_decide_eq_true e.1;simp at this;omega
  have hlt:=e.2
  refine wpIn_skip ?_
  refine wpIn_block ?_
  refine qC 2 ((20, .s ((UF.eq (.int .i64 ((k:Nat):Int))).toSF))::(21, .u (UF.eq (.int .i64 ((k+1:Nat):Int)))):: []) s (by kernel_rfl)
   (oc zC<|oc (y7 .i64 ((k:Nat):Int) 1 ((k+1:Nat):Int) iiz iiz (wrap64 _ _ (by omega) (by omega)))<|zE) fun a w4 s=> ?_
  replace s:=s.drop [5]
  refine yU (UF.eq (.int .i64 ((k+1:Nat):Int))) rfl s (by kernel_rfl) iiz fun a w s=> ?_
  refine zA rfl ?_
  exact ⟨k+1,⟨hk,fun j hj=>by rcases Nat.lt_or_eq_of_le (Nat.le_of_lt_succ hj) with h|h;exact hx.2 j h;rw [h];exact hlt⟩,(by show L.length - (k+1)<L.length - k;omega),s.keepK _ (fmz ⟨mz3,fmz ⟨.head _,fnz⟩⟩)⟩
 ·have hkl:=hx.1
  have hpos:zMO L p=k:=by
   rw [Bool.and_eq_false_iff] at e
   rcases Nat.lt_or_eq_of_le hkl with h|h
   ·exact zM5 h hx.2 (by rcases e with e|e;exact absurd (show ((k:Nat):Int)<(((pns L).length:Nat):Int) by simp;omega) (of_decide_eq_false e);exact e)
   ·unfold zMO;rw [h];exact zKA (by rw [←h];exact hx.2)
  clear e
  refine wpIn_exit ?_
  refine wpIn_seq ?_
  refine wpIn_seq ?_
  refine zB 12 ((22, .s ((UF.eq (.int .i64 ((k:Nat):Int))).toSF))::(23, .s ((UF.eq l).toSF))::(24, .s ((UF.eq (.int .i64 (((pns L).length:Nat):Int))).toSF))::(25, .s ((UF.eq (.bool (decide (((k:Nat):Int)<(((pns L).length:Nat):Int))))).toSF))::(26, .s ((UF.eq (.bool (decide (((k:Nat):Int)<(((pns L).length:Nat):Int))))).toSF))::(27, .s (SF.imp ((decide (((k:Nat):Int)<(((pns L).length:Nat):Int)))=true) ((UF.eq l).toSF)))::(28, .s (SF.imp ((decide (((k:Nat):Int)<(((pns L).length:Nat):Int)))=true) ((UF.eq (.int .i64 ((k:Nat):Int))).toSF)))::(29, .s (SF.imp ((decide (((k:Nat):Int)<(((pns L).length:Nat):Int)))=true) (SF.ptr (CU.agg (fPN (at_ L k))).cf)))::(30, .s (SF.imp ((decide (((k:Nat):Int)<(((pns L).length:Nat):Int)))=true) ((fPN (at_ L k)).toSF)))::(31, .s (SF.imp ((decide (((k:Nat):Int)<(((pns L).length:Nat):Int)))=true) ((fPV m p).toSF)))::(32, .s (SF.imp ((decide (((k:Nat):Int)<(((pns L).length:Nat):Int)))=true) ((UF.eq (.bool (zAT (at_ L k) p==0))).toSF)))::(33, .u (UF.eq (.bool ((decide (((k:Nat):Int)<(((pns L).length:Nat):Int)))&&(zAT (at_ L k) p==0))))):: []) hmix s (by kernel_rfl)
   (oc zC<|oc zC<|oc (y6 (z:=6) (Cs:=pns L) (by kernel_rfl) (fun v W hb h=>(yW hl h (s.up hb))) (fun _=>rfl))<|oc (zQ .i64 ((k:Nat):Int) (((pns L).length:Nat):Int) (decide (((k:Nat):Int)<(((pns L).length:Nat):Int))) iiz iiz rfl rfl)<|oc zC<|oc (zF 26 (decide (((k:Nat):Int)<(((pns L).length:Nat):Int))) (by kernel_rfl) iiz (fun e=>zR [] ((UF.eq l).toSF) fnz (fun _ _ h _=>h) (by kernel_rfl) zC) (fun e W h=>absurd h e))<|oc (zF 26 (decide (((k:Nat):Int)<(((pns L).length:Nat):Int))) (by kernel_rfl) iiz (fun e=>zR [] ((UF.eq (.int .i64 ((k:Nat):Int))).toSF) fnz (fun _ _ h _=>h) (by kernel_rfl) zC) (fun e W h=>absurd h e))<|oc (zF 26 (decide (((k:Nat):Int)<(((pns L).length:Nat):Int))) (by kernel_rfl) iiz (fun e=>zR [(27,(UF.eq l).toSF),(28,(UF.eq (.int .i64 ((k:Nat):Int))).toSF)] (SF.ptr (CU.agg (fPN (at_ L k))).cf) (fmz ⟨fun v W h=>zJ (c:=(decide (((k:Nat):Int)<(((pns L).length:Nat):Int)))=true) (f:=(UF.eq l).toSF) e h,fmz ⟨fun v W h=>zJ (c:=(decide (((k:Nat):Int)<(((pns L).length:Nat):Int)))=true) (f:=(UF.eq (.int .i64 ((k:Nat):Int))).toSF) e h,fnz⟩⟩) (fun _ _ h _=>h) (by kernel_rfl) (jB (z:=6) (Cs:=pns L) (i:=k) (C:=CU.agg (fPN (at_ L k))) (by kernel_rfl) (zCS (by have:=of_decide_eq_true e;simp at this;omega)) (fun v W hb h=>(yW hl h (s.up hb))) iiz)) (fun e W h=>absurd h e))<|oc (zF 26 (decide (((k:Nat):Int)<(((pns L).length:Nat):Int))) (by kernel_rfl) iiz (fun e=>zR [(29,SF.ptr (CU.agg (fPN (at_ L k))).cf)] ((fPN (at_ L k)).toSF) (fmz ⟨fun v W h=>zJ (c:=(decide (((k:Nat):Int)<(((pns L).length:Nat):Int)))=true) (f:=SF.ptr (CU.agg (fPN (at_ L k))).cf) e h,fnz⟩) (fun _ _ h _=>h) (by kernel_rfl) (zK (f:=fPN (at_ L k)) 6 (by kernel_rfl) (hz:=zP _ _))) (fun e W h=>absurd h e))<|oc (zF 26 (decide (((k:Nat):Int)<(((pns L).length:Nat):Int))) (by kernel_rfl) iiz (fun e=>zR [] ((fPV m p).toSF) fnz (fun _ _ h _=>h) (by kernel_rfl) (zK (f:=fPV m p) 6 (by kernel_rfl) (hz:=zP _ _))) (fun e W h=>absurd h e))<|oc (zF 26 (decide (((k:Nat):Int)<(((pns L).length:Nat):Int))) (by kernel_rfl) iiz (fun e=>zR [(30,(fPN (at_ L k)).toSF),(31,(fPV m p).toSF)] ((UF.eq (.bool (zAT (at_ L k) p==0))).toSF) (fmz ⟨fun v W h=>zJ (c:=(decide (((k:Nat):Int)<(((pns L).length:Nat):Int)))=true) (f:=(fPN (at_ L k)).toSF) e h,fmz ⟨fun v W h=>zJ (c:=(decide (((k:Nat):Int)<(((pns L).length:Nat):Int)))=true) (f:=(fPV m p).toSF) e h,fnz⟩⟩) (fun _ _ h _=>h) (by kernel_rfl) (zH zD zR2 (fun u0 u1 W hb (h0:(fPN (at_ L k)).p u0 W) (h1:(fPV m p).p u1 W)=>zIN (m:=m) (p:=at_ L k) (q:=p) (zBe (p:=at_ L k) (m:=m) (hqL _ (zDB (l:=L) (i:=k) (by have:=of_decide_eq_true e;simp at this;omega))).1 (hqL _ (zDB (l:=L) (i:=k) (by have:=of_decide_eq_true e;simp at this;omega))).2 h0) h1 hm hm0))) (fun e W h=>absurd h e))<|oc (yF (decide (((k:Nat):Int)<(((pns L).length:Nat):Int))) iiz (fun e v W h=>jQ (zJ e h) e) (fun e v W h=>qY h e))<|zE) fun a w5 s=> ?_
  refine zA rfl ?_
  refine StS.cond s ((decide (((k:Nat):Int)<(((pns L).length:Nat):Int)))&&(zAT (at_ L k) p==0)) iiz (fun e=> ?_) (fun e=> ?_)
  ·refine wpIn_seq ?_
   refine zB 2 ((34, .s ((UF.eq l).toSF))::(4, .u (UF.eq l)):: []) hmix s (by kernel_rfl)
    (oc zC<|oc zG<|zE) fun a w6 s=> ?_
   refine zA rfl ?_
   refine wpIn_ret ?_
   exact StS.resN s (Below.refl _ _) (t:=4) rfl (by rw [s.val (.head _),zRC hpos e];exact (SF.row 6 _).st _ _ _ hl s.below)
  ·refine wpIn_skip ?_
   refine wpIn_seq ?_
   have hbX:=s.below
   have hlX:=(SF.row 6 _).st _ _ _ hl hbX
   have hX3:b3<w5.heap.size:=s.old _ (.head _)
   replace s:StS _ _ _ [⟨3,30,CU.agg (fPV m p),b3,true⟩] _ _ _ _:=s.freeze
   replace s:=s.reb rfl [(33, .u (UF.eq (.bool ((decide (((k:Nat):Int)<(((pns L).length:Nat):Int)))&&(zAT (at_ L k) p==0))))),(19, .u (UF.eq (.bool ((decide (((k:Nat):Int)<(((pns L).length:Nat):Int)))&&(decide (zAT (at_ L k) p<0)))))),(0, .u (UF.eq l)),(5, .u (UF.eq (.int .i64 ((k:Nat):Int))))] (fmz ⟨.inl (.head _),fmz ⟨.inl mz1,fmz ⟨.inl mz2,fmz ⟨.inl mz3,fnz⟩⟩⟩⟩)
   refine jW 5 ((35, .s (SF.emp w5 30))::(36, .s ((UF.eq l).toSF))::(37, .s ((UF.eq (.int .i64 ((k:Nat):Int))).toSF))::(38, .s (SF.row 6 (pns (L.take k))))::(39, .s (SF.newRow w5 30 6 (pns (L.take k)))):: []) hmix s (by kernel_rfl)
    (oc (zE0 (z:=6) (by kernel_rfl))<|oc zC<|oc zC<|oc (zI1 (z:=6) (k:=k) (Cs:=pns L) (by kernel_rfl) (by simp;omega) (fun v W hb h=>(yW hlX h (s.up hb))) iiz (fun v W h=>by rw [zNI] at h;exact h))<|oc (zHY (pns (L.take k)) (by kernel_rfl) iiz (fun v W hb h=>h) (zLx _) (by simp;omega))<|zE) fun a w7 s hr=> ?_
   obtain ⟨v39,e39⟩: ∃v,a.tmps.getD 39 undef=v:=⟨_,rfl⟩
   have hv39:zB6 w7 w5.heap.size 30 6 v39 (pns (L.take k)):=e39▸(hr (_,_) mz4)
   replace s:=s.learn 39 v39 e39
   refine zOD (UF.eq v39) rfl s (by kernel_rfl) iiz fun a s=> ?_
   refine zA rfl ?_
   refine wpIn_seq ?_
   have sb:=s;have so: ∀q,q∈ [(⟨3,30,CU.agg (fPV m p),b3,true⟩:Bx)]→q.b<w5.heap.size:=fun q hq=>by rcases List.mem_cons.1 hq with rfl|hq;exact hX3;cases hq
   have sg:w5.heap.size≤w5.heap.size:=Nat.le_refl _
   have hwX:=s.below
   refine zDH (GW w5) hmix s fun w8 hw8 s=> ?_
   have hwb:=hwX.trans (hw8.mono hwX.size)
   have hz:=hwb.size
   refine zA4 [5,6,7] [0,1,2,3,5,6,7] ((40, .u (UF.eq v39))::(41, .s ((fPV m p).toSF))::(42, .s (SF.row 6 [CU.agg (fPV m p)]))::(43, .s (SF.row 6 (pns [p])))::(45, .s ((UF.eq l).toSF))::(46, .s ((UF.eq (.int .i64 ((k:Nat):Int))).toSF))::(47, .u (fRW w5 6 (pns (L.drop k)))):: []) (zE9 hwb) s (by kernel_rfl)
    (oc zC<|oc (zK (f:=fPV m p) 6 (by kernel_rfl) (hz:=zP _ _))<|oc (zA2 (fun u W (hu:(fPV m p).p u W)=>zGI hu))<|oc (zI zD zR9 (fun u0 W hb h0=>(zNp (m:=m) (ps:= [p]) h0 (by omega) (by simp)).mono (Ret.to zJ3)))<|oc zC<|oc zC<|oc (zHX (W0:=w5) (l0:=l) (z:=6) (k:=k) (Cs:=pns L) (by kernel_rfl) (by simp;omega) hlX iiz iiz (fun v W h=>by rw [zNJ] at h;exact h))<|zE)
    (qO rfl (zC3.c zCu hwb) (qO rfl (zC3.c zCu hwb) (qO rfl (zC3.c (zIc (x:= .tmp 45) (lo:= .tmp 46) (l0:=l) (z:=6) (k:=k) (Cs:=pns L) (by kernel_rfl) (by simp;omega) hlX iiz iiz) hwb) zA7))) fun a w9 hbw s hr=> ?_
   replace hwb:=hwb.trans (hbw.mono hwb.size)
   have hN:=hv39.below (hw8.trans (hbw.mono hw8.size))
   refine zEk (i:=4) (x:= .tmp 40) (y:= .tmp 43) (pns [p]) hwb s sg hN rfl (zBn rfl) (by kernel_rfl) (by kernel_rfl) (by kernel_rfl) (s.fct (.tmp 40)) (hr (_,_) mz3) (zLx _) (by simp;omega) so fun v44 a w10 hwb hN44 s=> ?_
   have hR44:=hN44.row
   refine zEk (i:=8) (x:= .tmp 44) (y:= .tmp 47) (pns (L.drop k)) hwb s sg hN44 rfl (zBn rfl) (by kernel_rfl) (by kernel_rfl) (by kernel_rfl) (s.fct (.tmp 44)) ((SF.row 6 _).st _ _ _ (s.sl (47, .u (fRW w5 6 (pns (L.drop k)))) mz2) hwb) (zLx _) (by simp;omega) so fun v48 a w11 hwb hN48 s=> ?_
   have hR48:=hN48.row
   have hR:(SF.row 6 (pns (zHT L p))).p v48 w11:=by have:=hR48;rw [zLu, ←zRD hpos e] at this;exact this
   replace s:=s.drop [4]
   refine zA4 [] [9] ((4, .u (UF.eq v48)):: []) (zE9 hwb) s (by kernel_rfl) (zEu zG<|zE) zA7 fun a w12 hbw s hr=> ?_
   refine zCE (by kernel_rfl) ?_
   refine wpIn_ret ?_
   exact StS.resN s hbX (t:=4) rfl (by rw [s.val (.head _)];exact (SF.row 6 _).st _ _ _ hR hbw)
end Go.Proofs.Wd

namespace Go.Proofs.Wd
set_option maxRecDepth 100000
set_option maxHeartbeats 1000000
open Go.RowKit Lb
theorem zRk (z:Nat) (W:World):(SF.row z []).p (.slice none 0 0) W:=⟨none,0,rfl,Nat.le_refl _,by decide,fun _=>rfl,fun i C hi=>by simp at hi⟩
theorem zF5 {F:Fence} {m:Nat} {P:Program} {w0:World} {ops:Array Oper} {G:Nat→SF} {d:Tmp} {ty:TypeId} {pos:String} {aft:Array Edge} {f:FuncId} {x y z q:Operand} {ats:Array TypeId} (hF:zIm F m P) (he:Enters P f) (h: ∀u v r s W,Below w0.heap.size w0 W→(fct G x).p u W→(fct G y).p v W→(fct G z).p r W→(fct G q).p s W→Calls P f #[u,v,r,s] W (Ret W (G d))):qK F m P w0 ops G ⟨some d, .call ⟨.value (.func f),#[x,y,z,q],ats⟩,ty,pos,aft,none⟩:=
 zDi hF he fun b W hb hh=>by simpa using h _ _ _ _ W hb (hh x (by simp)) (hh y (by simp)) (hh z (by simp)) (hh q (by simp))
def zC2 (p q:V2):Prop:= ∃m n,PB p m∧PB q n∧m+n≤81
theorem zC2.sub {p q:V2} (h:zC2 p q):QB (q.1 - p.1) 82∧QB (q.2 - p.2) 82:=by
 obtain ⟨m,n,h1,h2,h3⟩:=h
 exact ⟨(h2.1.sub h1.1).mono (by omega),(h2.2.sub h1.2).mono (by omega)⟩
theorem zC2.one {p q:V2} (h:zC2 p q):QB p.1 80∧QB p.2 80:=by
 obtain ⟨m,n,h1,h2,h3⟩:=h
 exact ⟨h1.1.mono (by have:=h2.1.pos;omega),h1.2.mono (by have:=h2.1.pos;omega)⟩
theorem zC2.two {p q:V2} (h:zC2 p q):QB q.1 80∧QB q.2 80:=by
 obtain ⟨m,n,h1,h2,h3⟩:=h
 exact ⟨h2.1.mono (by have:=h1.1.pos;omega),h2.2.mono (by have:=h1.1.pos;omega)⟩
def dnm (a b c d:V2):Rat:=(b.1 - a.1)*(d.2 - c.2) - (b.2 - a.2)*(d.1 - c.1)
def tnm (a c d:V2):Rat:=(c.1 - a.1)*(d.2 - c.2) - (c.2 - a.2)*(d.1 - c.1)
def yY (a b c d:V2):V2:=if dnm a b c d=0 then (((0:Int):Rat),((0:Int):Rat)) else seg a b (tnm a c d / dnm a b c d)
theorem zOV {a b:V2} {m:Nat} (h:zC2 a b) (hm:163≤m): ∃l:Ln,l.bd m∧ ∃s:Rat,s≠0∧ ∀p:V2,(l.A:Rat)*p.1+(l.B:Rat)*p.2+(l.C:Rat)=s*crs a b p:=by
 obtain ⟨k,n,ha,hb,hkn⟩:=h
 refine ⟨⟨-(b.2.num*a.2.den - a.2.num*b.2.den)*(a.1.den*b.1.den),(b.1.num*a.1.den - a.1.num*b.1.den)*(a.2.den*b.2.den),b.2.num*a.1.num*(b.1.den*a.2.den) - b.1.num*a.2.num*(a.1.den*b.2.den)⟩, ?_,(a.1.den:Rat)*b.1.den*(a.2.den*b.2.den), ?_,fun p=> ?_⟩
 ·have d1:=qP ha.1.2;have d2:=qP ha.2.2;have d3:=qP hb.1.2;have d4:=qP hb.2.2
  refine ⟨?_, ?_, ?_⟩
  ·exact ((((hb.2.1.mul d2).add ((ha.2.1.mul d4).neg.mono (by omega))).neg.mul (d1.mul d3)).mono (by omega))
  ·exact ((((hb.1.1.mul d1).add ((ha.1.1.mul d3).neg.mono (by omega))).mul (d2.mul d4)).mono (by omega))
  ·exact (((hb.2.1.mul ha.1.1).mul (d3.mul d2)).add ((((hb.1.1.mul ha.2.1).mul (d1.mul d4)).neg).mono (by omega))).mono (by omega)
 ·have: ∀q:Rat,(q.den:Rat)≠0:=fun q h=>q.den_nz (by exact_mod_cast h)
  have h1:=this a.1;have h2:=this a.2;have h3:=this b.1;have h4:=this b.2
  intro h
  rcases Rat.mul_eq_zero.1 h with h|h<;>rcases Rat.mul_eq_zero.1 h with h|h<;>contradiction
 ·simp only [Rat.intCast_mul,Rat.intCast_sub,Rat.intCast_neg,Rat.intCast_natCast,zE3]
  unfold crs
  grind
theorem zNZ {a b c d:V2} (hab:zC2 a b) (hcd:zC2 c d):QB (yY a b c d).1 327∧QB (yY a b c d).2 327:=by
 unfold yY
 split
 ·exact ⟨QB.zero (by decide),QB.zero (by decide)⟩
 ·rename_i hd
  obtain ⟨l,hl,s,hs,he⟩:=zOV hab lr
  obtain ⟨l',hl',s',hs',he'⟩:=zOV hcd lr
  have hne:a≠b:=fun e=>hd (by subst e;unfold dnm;grind)
  have h6:crs a b (seg a b (tnm a c d / dnm a b c d))=0:=by unfold crs seg;grind
  have h7:crs c d (seg a b (tnm a c d / dnm a b c d))=0:=by
   have e1:crs c d (seg a b (tnm a c d / dnm a b c d))=tnm a c d - tnm a c d / dnm a b c d*dnm a b c d:=by
    generalize tnm a c d / dnm a b c d=t
    unfold crs seg tnm dnm
    grind
   rw [e1,Rat.div_mul_cancel hd]
   grind
  have key: ∀q:V2,crs a b q=0→crs c d q≠0→PB (seg a b (tnm a c d / dnm a b c d)) 327:=fun q h1 h2=>
   zOk (l:=l) (l':=l') (q:=q) (m:=163) (by decide) hl hl' (by unfold Ln.on;rw [he,h6];grind) (by unfold Ln.on;rw [he,h1];grind) (by unfold Ln.on;rw [he',h7];grind) (fun h=>by
    unfold Ln.on at h
    rw [he'] at h
    rcases Rat.mul_eq_zero.1 h with h|h
    ·exact hs' h
    ·exact h2 h) (zSJ hne l s hs he)
  by_cases h8:crs c d a=0
  ·exact key b (by unfold crs;grind) fun h9=>hd (by unfold crs at h8 h9;unfold dnm;grind)
  ·exact key a (by unfold crs;grind) h8
theorem zPg {a b c d:V2} (hab:zC2 a b) (hcd:zC2 c d):QB (dnm a b c d) 329:=((hab.sub.1.mul hcd.sub.2).sub (hab.sub.2.mul hcd.sub.1)).mono (by decide)
theorem zOA {a c d:V2} (hac:zC2 a c) (hcd:zC2 c d):QB (tnm a c d) 329:=((hac.sub.1.mul hcd.sub.2).sub (hac.sub.2.mul hcd.sub.1)).mono (by decide)
def zBv (a b c d:V2):Int:=if ((((pns (yO a b c d 4)).length:Nat):Int)≥2) then 2 else if ((((pns (yO a b c d 4)).length:Nat):Int)==1)=true then 1 else if ((!(decide (dnm a b c d=0))&&onS a b (yY a b c d))&&onS c d (yY a b c d))=true then 1 else 0
section
variable {S:Nat→Prop} {w0 w1:World} {K K0:List (Nat×KF)} {n n0:Nat} {ds0:List Deferred} {a a0:Act} {w:World}
theorem yQ.thaw: ∀(B:List Bx),yQ S w0 a0 w1 B→yQ noS w1 a w (frz B)→yQ S w0 a w B
 | [],_,_=>trivial
 |x::B,⟨⟨_,_,h2,_,_,_,h6⟩,h7⟩,⟨⟨cs,g1,_,g3,g4,g5,_⟩,g7⟩=>⟨⟨cs,g1,h2,g3,g4,g5,h6⟩,yQ.thaw B h7 g7⟩
theorem StS.thaw {B:List Bx} (h0:StS S w0 K0 B n0 ds0 a0 w1) (h:St w1 K (frz B) n [] a w) (hu:(K.all fun q=>zRS q.2)=true):StS S w0 K B n [] a w:=
 ⟨h0.gr.trans h.below,h.size,h.nd,fun q hq=>by
  have h1:=h.sl q hq
  obtain ⟨f,e⟩:=zAu hu q hq
  rw [e] at h1 ⊢
  exact h1,yQ.thaw B h0.bx h.bx,⟨[],Marks.nil _ _⟩, .inl (zAu hu)⟩
end
def fMT (k:Int):UF:=⟨⟨fun v _=> ∃vs:List Value,v= .agg (Value.int .i8 k::vs).toArray∧vs.length=12∧(∀u,u∈vs→u.oneCell'=true)∧vs.all yG=true,fun _ _ _ h _=>h⟩,fun _ _ _ h _=>h⟩
theorem zI6 (k:Int) (cs:List Value) (W:World) (h:(CU.agg (fMT k)).p cs W):cs.length=13:=by
 obtain ⟨vs,e,h1,_⟩:=h
 obtain rfl:cs=Value.int .i8 k::vs:=by simpa using jF e
 simp [h1]
theorem zDn (k:Int) (v:Value) (W:World) (h:(fMT k).p v W): ∃vs:List Value,v= .agg vs.toArray∧vs.length=13∧(∀u,u∈vs→u.oneCell'=true)∧vs.all yG=true∧(CU.agg (fMT k)).p vs W:=by
 obtain ⟨vs,rfl,h1,h2,h3⟩:=h
 exact ⟨_,rfl,by simp [h1],fun u hu=>by rcases List.mem_cons.1 hu with rfl|hu;rfl;exact h2 u hu,by simpa [yG] using h3,vs,rfl,h1,h2,h3⟩
theorem zGa (k:Int) (cs:List Value) (W:World) (h:(CU.agg (fMT k)).p cs W): ∃u,cs[0]?=some u∧(UF.eq (.int .i8 k)).p u W:=by
 obtain ⟨vs,e,_⟩:=h
 obtain rfl:cs=Value.int .i8 k::vs:=by simpa using jF e
 exact ⟨_,rfl,rfl⟩
theorem zUk (k:Int) (a1 a2 a3 a4 a5 a6 b1 b2 b3 b4 b5 b6:Value):Tryz.prog.built 148 [(0, .int .i8 k),(1, .agg #[a1,a2,a3,a4,a5,a6]),(2, .agg #[b1,b2,b3,b4,b5,b6])]=some #[.int .i8 k,a1,a2,a3,a4,a5,a6,b1,b2,b3,b4,b5,b6]:=by kernel_rfl
theorem zUl (a1 a2 a3 a4 a5 a6 b1 b2 b3 b4 b5 b6:Value):Tryz.prog.built 148 [(1, .agg #[a1,a2,a3,a4,a5,a6]),(2, .agg #[b1,b2,b3,b4,b5,b6])]=some #[.int .i8 0,a1,a2,a3,a4,a5,a6,b1,b2,b3,b4,b5,b6]:=by kernel_rfl
theorem zEo {f g:UF} {v:Value} {W:World} (h:(fPT f g).p v W): ∃u0 u1 u2 u3 u4 u5,v= .agg #[u0,u1,u2,u3,u4,u5]∧(∀u,u∈ [u0,u1,u2,u3,u4,u5]→u.oneCell'=true)∧ [u0,u1,u2,u3,u4,u5].all yG=true:=by
 obtain ⟨vs,rfl,hl,h1,h2,_⟩:=yR v W h
 obtain ⟨u0,u1,u2,u3,u4,u5,rfl⟩:=zRP hl
 exact ⟨u0,u1,u2,u3,u4,u5,rfl,h1,h2⟩
theorem zQT {f g f' g':UF} {k:Int} {u v:Value} {W:World} (hu:(fPT f g).p u W) (hv:(fPT f' g').p v W): ∃cells,Tryz.prog.built 148 [(0, .int .i8 k),(1,u),(2,v)]=some cells∧(fMT k).p (.agg cells) W:=by
 obtain ⟨a1,a2,a3,a4,a5,a6,rfl,h1,h2⟩:=zEo hu
 obtain ⟨b1,b2,b3,b4,b5,b6,rfl,h3,h4⟩:=zEo hv
 exact ⟨_,zUk .., [a1,a2,a3,a4,a5,a6]++ [b1,b2,b3,b4,b5,b6],rfl,rfl,fun u hu=>by rcases List.mem_append.1 hu with h|h;exact h1 u h;exact h3 u h,by rw [List.all_append,h2,h4];rfl⟩
theorem zTL {f g f' g':UF} {u v:Value} {W:World} (hu:(fPT f g).p u W) (hv:(fPT f' g').p v W): ∃cells,Tryz.prog.built 148 [(1,u),(2,v)]=some cells∧(fMT 0).p (.agg cells) W:=by
 obtain ⟨a1,a2,a3,a4,a5,a6,rfl,h1,h2⟩:=zEo hu
 obtain ⟨b1,b2,b3,b4,b5,b6,rfl,h3,h4⟩:=zEo hv
 exact ⟨_,zUl .., [a1,a2,a3,a4,a5,a6]++ [b1,b2,b3,b4,b5,b6],rfl,rfl,fun u hu=>by rcases List.mem_append.1 hu with h|h;exact h1 u h;exact h3 u h,by rw [List.all_append,h2,h4];rfl⟩
theorem zLf {W:World} {u v x y:Value} {ca cb cc cd:V2} (h1:(fPV 80 ca).p u W) (h2:(fPV 80 cb).p v W) (h3:(fPV 80 cc).p x W) (h4:(fPV 80 cd).p y W):Calls Tryz.prog 156 #[u,v,x,y] W (Ret W (SF.row 6 (pns (yO ca cb cc cd 4)))):=by
 have hq4: ∀p,p∈ [ca,cb,cc,cd]→QB p.1 80∧QB p.2 80:=fun p hp=>by
  simp only [List.mem_cons,List.not_mem_nil,or_false] at hp
  rcases hp with rfl|rfl|rfl|rfl
  ·exact zCh (by decide) h1
  ·exact zCh (by decide) h2
  ·exact zCh (by decide) h3
  ·exact zCh (by decide) h4
 refine z7 [(fPV 80 ca).toSF,(fPV 80 cb).toSF,(fPV 80 cc).toSF,(fPV 80 cd).toSF] Tryz.func156 rfl (by kernel_rfl) ⟨h1,h2,h3,h4,trivial⟩ fun a s=> ?_
 replace s:=s.renew [(0, .u (fPV 80 ca)),(1, .u (fPV 80 cb)),(2, .u (fPV 80 cc)),(3, .u (fPV 80 cd))] (fmz ⟨.inr ⟨_,rfl, .head _⟩,fmz ⟨.inr ⟨_,rfl,mz1⟩,fmz ⟨.inr ⟨_,rfl,mz2⟩,fmz ⟨.inr ⟨_,rfl,mz3⟩,fnz⟩⟩⟩⟩)
 refine wpIn_seq ?_
 refine zB 0 [] hmix s (by kernel_rfl)
  zE fun a w1 s=> ?_
 refine yJ (CU.agg (fPV 80 ca)) rfl s (by kernel_rfl) (fun v W h=>yP h) fun b4 a w s=> ?_
 refine yJ (CU.agg (fPV 80 cb)) rfl s (by kernel_rfl) (fun v W h=>yP h) fun b5 a w s=> ?_
 refine yJ (CU.agg (fPV 80 cc)) rfl s (by kernel_rfl) (fun v W h=>yP h) fun b6 a w s=> ?_
 refine yJ (CU.agg (fPV 80 cd)) rfl s (by kernel_rfl) (fun v W h=>yP h) fun b7 a w s=> ?_
 refine yU (UF.eq (.slice none 0 0)) rfl s (by kernel_rfl) iiz fun a w s=> ?_
 refine zA rfl ?_
 refine wpIn_seq ?_
 refine zB 1 ((9, .u (UF.eq (.slice none 0 0))):: []) hmix s (by kernel_rfl)
  (oc zG<|zE) fun a w2 s=> ?_
 refine zA rfl ?_
 refine wpIn_seq ?_
 refine jW 5 ((12, .s ((fPV 80 ca).toSF))::(13, .s ((fPV 80 cb).toSF))::(14, .s ((fPV 80 cc).toSF))::(15, .s ((fPV 80 cd).toSF))::(16, .s (SF.row 6 (pvs 80 [ca,cb,cc,cd]))):: []) hmix s (by kernel_rfl)
  (oc (zK (f:=fPV 80 ca) 6 (by kernel_rfl) (hz:=zP _ _))<|oc (zK (f:=fPV 80 cb) 6 (by kernel_rfl) (hz:=zP _ _))<|oc (zK (f:=fPV 80 cc) 6 (by kernel_rfl) (hz:=zP _ _))<|oc (zK (f:=fPV 80 cd) 6 (by kernel_rfl) (hz:=zP _ _))<|oc (zLF (fun u v r s W (hu:(fPV 80 ca).p u W) (hv:(fPV 80 cb).p v W) (hr:(fPV 80 cc).p r W) (hs:(fPV 80 cd).p s W)=>zRc hu hv hr hs))<|zE) fun a w3 s hr=> ?_
 obtain ⟨v16,e16⟩: ∃v,a.tmps.getD 16 undef=v:=⟨_,rfl⟩
 have hv16:(SF.row 6 (pvs 80 [ca,cb,cc,cd])).p v16 w3:=e16▸(hr (_,_) mz4)
 replace s:=s.learn 16 v16 e16
 have hbX:=s.below
 replace s:StS _ _ _ [⟨7,30,CU.agg (fPV 80 cd),b7,true⟩,⟨6,30,CU.agg (fPV 80 cc),b6,true⟩,⟨5,30,CU.agg (fPV 80 cb),b5,true⟩,⟨4,30,CU.agg (fPV 80 ca),b4,true⟩] _ _ _ _:=s.freeze
 replace s:=s.reb rfl [(16, .u (UF.eq v16)),(9, .u (UF.eq (.slice none 0 0))),(8, .u (UF.eq (.slice none 0 0))),(0, .u (fPV 80 ca)),(1, .u (fPV 80 cb)),(2, .u (fPV 80 cc)),(3, .u (fPV 80 cd))] (fmz ⟨.inl (.head _),fmz ⟨.inl mz1,fmz ⟨.inl mz2,fmz ⟨.inl mz3,fmz ⟨.inl mz4,fmz ⟨.inl mz5,fmz ⟨.inl mz6,fnz⟩⟩⟩⟩⟩⟩⟩)
 refine yU (UF.eq v16) rfl s (by kernel_rfl) iiz fun a w s=> ?_
 refine zA rfl ?_
 refine wpIn_seq ?_
 refine wpIn_seq ?_
 refine zB 1 ((11, .u (UF.eq (.int .i64 0))):: []) hmix s (by kernel_rfl)
  (oc zG<|zE) fun a w4 s=> ?_
 refine zA rfl ?_
 refine wpIn_block ?_
 have hi0:(SF.row 6 (pns (yO ca cb cc cd 0))).p (.slice none 0 0) w4:=zRk 6 _
 refine zFL (fun (p:Nat×Value) w=>p.1≤4∧(SF.row 6 (pns (yO ca cb cc cd p.1))).p p.2 w) (fun p=> [(10, .u (UF.eq v16)),(9, .u (UF.eq p.2)),(11, .u (UF.eq (.int .i64 ((p.1:Nat):Int))))]) (fun p=>4 - p.1) (0, .slice none 0 0) (⟨Nat.zero_le _,hi0⟩) (s.keepK _ (fmz ⟨mz1,fmz ⟨mz3,fmz ⟨.head _,fnz⟩⟩⟩)) fun p a w hI s=> ?_
 have s0:=s
 have hv16w:=(SF.row 6 (pvs 80 [ca,cb,cc,cd])).st _ _ _ hv16 s0.below
 replace s:=s.reb rfl [(10, .u (UF.eq v16)),(9, .u (UF.eq p.2)),(11, .u (UF.eq (.int .i64 ((p.1:Nat):Int))))] (fmz ⟨.inl (.head _),fmz ⟨.inl mz1,fmz ⟨.inl mz2,fnz⟩⟩⟩)
 refine wpIn_seq ?_
 refine wpIn_seq ?_
 refine zB 2 ((17, .s ((UF.eq (.int .i64 ((p.1:Nat):Int))).toSF))::(18, .u (UF.eq (.bool (decide (((p.1:Nat):Int)<4))))):: []) hmix s (by kernel_rfl)
  (oc zC<|oc (zQ .i64 ((p.1:Nat):Int) 4 (decide (((p.1:Nat):Int)<4)) iiz iiz rfl rfl)<|zE) fun a w5 s=> ?_
 refine zA rfl ?_
 refine StS.cond s (decide (((p.1:Nat):Int)<4)) iiz (fun e=> ?_) (fun e=> ?_)
 ·have hk4:p.1<4:=by have:=of_decide_eq_true e;omega
  have hk:p.1<([ca,cb,cc,cd]:List V2).length:=hk4
  refine wpIn_skip ?_
  refine wpIn_seq ?_
  refine wpIn_block ?_
  refine wpIn_seq ?_
  refine zB 16 ((21, .s ((fPV 80 ca).toSF))::(22, .s ((fPV 80 cb).toSF))::(23, .s ((UF.eq v16).toSF))::(24, .s ((UF.eq (.int .i64 ((p.1:Nat):Int))).toSF))::(25, .s (SF.ptr (CU.agg (fPV 80 (at_ [ca,cb,cc,cd] p.1))).cf))::(26, .s ((fPV 80 (at_ [ca,cb,cc,cd] p.1)).toSF))::(27, .s ((UF.eq (.bool (onS ca cb (at_ [ca,cb,cc,cd] p.1)))).toSF))::(28, .s ((UF.eq (.bool (onS ca cb (at_ [ca,cb,cc,cd] p.1)))).toSF))::(29, .s (SF.imp ((onS ca cb (at_ [ca,cb,cc,cd] p.1))=true) ((fPV 80 cc).toSF)))::(30, .s (SF.imp ((onS ca cb (at_ [ca,cb,cc,cd] p.1))=true) ((fPV 80 cd).toSF)))::(31, .s (SF.imp ((onS ca cb (at_ [ca,cb,cc,cd] p.1))=true) ((UF.eq v16).toSF)))::(32, .s (SF.imp ((onS ca cb (at_ [ca,cb,cc,cd] p.1))=true) ((UF.eq (.int .i64 ((p.1:Nat):Int))).toSF)))::(33, .s (SF.imp ((onS ca cb (at_ [ca,cb,cc,cd] p.1))=true) (SF.ptr (CU.agg (fPV 80 (at_ [ca,cb,cc,cd] p.1))).cf)))::(34, .s (SF.imp ((onS ca cb (at_ [ca,cb,cc,cd] p.1))=true) ((fPV 80 (at_ [ca,cb,cc,cd] p.1)).toSF)))::(35, .s (SF.imp ((onS ca cb (at_ [ca,cb,cc,cd] p.1))=true) ((UF.eq (.bool (onS cc cd (at_ [ca,cb,cc,cd] p.1)))).toSF)))::(36, .u (UF.eq (.bool ((onS ca cb (at_ [ca,cb,cc,cd] p.1))&&(onS cc cd (at_ [ca,cb,cc,cd] p.1)))))):: []) hmix s (by kernel_rfl)
   (oc (zK (f:=fPV 80 ca) 6 (by kernel_rfl) (hz:=zP _ _))<|oc (zK (f:=fPV 80 cb) 6 (by kernel_rfl) (hz:=zP _ _))<|oc zC<|oc zC<|oc (jB (z:=6) (Cs:=pvs 80 ([ca,cb,cc,cd])) (i:=p.1) (C:=CU.agg (fPV 80 (at_ [ca,cb,cc,cd] p.1))) (by kernel_rfl) (jD hk) (fun v W hb h=>(yW hv16w h (s.up hb))) iiz)<|oc (zK (f:=fPV 80 (at_ [ca,cb,cc,cd] p.1)) 6 (by kernel_rfl) (hz:=zP _ _))<|oc (jZ zD zJt (fun u0 u1 u2 W hb (h0:(fPV 80 ca).p u0 W) (h1:(fPV 80 cb).p u1 W) (h2:(fPV 80 (at_ [ca,cb,cc,cd] p.1)).p u2 W)=>zFX (m:=80) (M:=80) h0 h1 h2 (by decide) (by decide) (by decide) (by decide)))<|oc zC<|oc (zF 28 (onS ca cb (at_ [ca,cb,cc,cd] p.1)) (by kernel_rfl) iiz (fun e=>zR [] ((fPV 80 cc).toSF) fnz (fun _ _ h _=>h) (by kernel_rfl) (zK (f:=fPV 80 cc) 6 (by kernel_rfl) (hz:=zP _ _))) (fun e W h=>absurd h e))<|oc (zF 28 (onS ca cb (at_ [ca,cb,cc,cd] p.1)) (by kernel_rfl) iiz (fun e=>zR [] ((fPV 80 cd).toSF) fnz (fun _ _ h _=>h) (by kernel_rfl) (zK (f:=fPV 80 cd) 6 (by kernel_rfl) (hz:=zP _ _))) (fun e W h=>absurd h e))<|oc (zF 28 (onS ca cb (at_ [ca,cb,cc,cd] p.1)) (by kernel_rfl) iiz (fun e=>zR [] ((UF.eq v16).toSF) fnz (fun _ _ h _=>h) (by kernel_rfl) zC) (fun e W h=>absurd h e))<|oc (zF 28 (onS ca cb (at_ [ca,cb,cc,cd] p.1)) (by kernel_rfl) iiz (fun e=>zR [] ((UF.eq (.int .i64 ((p.1:Nat):Int))).toSF) fnz (fun _ _ h _=>h) (by kernel_rfl) zC) (fun e W h=>absurd h e))<|oc (zF 28 (onS ca cb (at_ [ca,cb,cc,cd] p.1)) (by kernel_rfl) iiz (fun e=>zR [(31,(UF.eq v16).toSF),(32,(UF.eq (.int .i64 ((p.1:Nat):Int))).toSF)] (SF.ptr (CU.agg (fPV 80 (at_ [ca,cb,cc,cd] p.1))).cf) (fmz ⟨fun v W h=>zJ (c:=(onS ca cb (at_ [ca,cb,cc,cd] p.1))=true) (f:=(UF.eq v16).toSF) e h,fmz ⟨fun v W h=>zJ (c:=(onS ca cb (at_ [ca,cb,cc,cd] p.1))=true) (f:=(UF.eq (.int .i64 ((p.1:Nat):Int))).toSF) e h,fnz⟩⟩) (fun _ _ h _=>h) (by kernel_rfl) (jB (z:=6) (Cs:=pvs 80 ([ca,cb,cc,cd])) (i:=p.1) (C:=CU.agg (fPV 80 (at_ [ca,cb,cc,cd] p.1))) (by kernel_rfl) (jD hk) (fun v W hb h=>(yW hv16w h (s.up hb))) iiz)) (fun e W h=>absurd h e))<|oc (zF 28 (onS ca cb (at_ [ca,cb,cc,cd] p.1)) (by kernel_rfl) iiz (fun e=>zR [(33,SF.ptr (CU.agg (fPV 80 (at_ [ca,cb,cc,cd] p.1))).cf)] ((fPV 80 (at_ [ca,cb,cc,cd] p.1)).toSF) (fmz ⟨fun v W h=>zJ (c:=(onS ca cb (at_ [ca,cb,cc,cd] p.1))=true) (f:=SF.ptr (CU.agg (fPV 80 (at_ [ca,cb,cc,cd] p.1))).cf) e h,fnz⟩) (fun _ _ h _=>h) (by kernel_rfl) (zK (f:=fPV 80 (at_ [ca,cb,cc,cd] p.1)) 6 (by kernel_rfl) (hz:=zP _ _))) (fun e W h=>absurd h e))<|oc (zF 28 (onS ca cb (at_ [ca,cb,cc,cd] p.1)) (by kernel_rfl) iiz (fun e=>zR [(29,(fPV 80 cc).toSF),(30,(fPV 80 cd).toSF),(34,(fPV 80 (at_ [ca,cb,cc,cd] p.1)).toSF)] ((UF.eq (.bool (onS cc cd (at_ [ca,cb,cc,cd] p.1)))).toSF) (fmz ⟨fun v W h=>zJ (c:=(onS ca cb (at_ [ca,cb,cc,cd] p.1))=true) (f:=(fPV 80 cc).toSF) e h,fmz ⟨fun v W h=>zJ (c:=(onS ca cb (at_ [ca,cb,cc,cd] p.1))=true) (f:=(fPV 80 cd).toSF) e h,fmz ⟨fun v W h=>zJ (c:=(onS ca cb (at_ [ca,cb,cc,cd] p.1))=true) (f:=(fPV 80 (at_ [ca,cb,cc,cd] p.1)).toSF) e h,fnz⟩⟩⟩) (fun _ _ h _=>h) (by kernel_rfl) (jZ zD zJt (fun u0 u1 u2 W hb (h0:(fPV 80 cc).p u0 W) (h1:(fPV 80 cd).p u1 W) (h2:(fPV 80 (at_ [ca,cb,cc,cd] p.1)).p u2 W)=>zFX (m:=80) (M:=80) h0 h1 h2 (by decide) (by decide) (by decide) (by decide)))) (fun e W h=>absurd h e))<|oc (yF (onS ca cb (at_ [ca,cb,cc,cd] p.1)) iiz (fun e v W h=>jQ (zJ e h) e) (fun e v W h=>qY h e))<|zE) fun a w6 s=> ?_
  refine zA rfl ?_
  refine StS.cond s ((onS ca cb (at_ [ca,cb,cc,cd] p.1))&&(onS cc cd (at_ [ca,cb,cc,cd] p.1))) iiz (fun e=> ?_) (fun e=> ?_)
  ·refine zER 6 ((37, .s ((UF.eq p.2).toSF))::(38, .s ((UF.eq v16).toSF))::(39, .s ((UF.eq (.int .i64 ((p.1:Nat):Int))).toSF))::(40, .s (SF.ptr (CU.agg (fPV 80 (at_ [ca,cb,cc,cd] p.1))).cf))::(41, .s ((fPV 80 (at_ [ca,cb,cc,cd] p.1)).toSF))::(42, .s (SF.row 6 (pns (zHT (yO ca cb cc cd p.1) (at_ [ca,cb,cc,cd] p.1))))):: []) s (by kernel_rfl)
    (oc zC<|oc zC<|oc zC<|oc (jB (z:=6) (Cs:=pvs 80 ([ca,cb,cc,cd])) (i:=p.1) (C:=CU.agg (fPV 80 (at_ [ca,cb,cc,cd] p.1))) (by kernel_rfl) (jD hk) (fun v W hb h=>(yW hv16w h (s.up hb))) iiz)<|oc (zK (f:=fPV 80 (at_ [ca,cb,cc,cd] p.1)) 6 (by kernel_rfl) (hz:=zP _ _))<|oc (zH zD zSg (fun u0 u1 W hb (h0:u0=p.2) (h1:(fPV 80 (at_ [ca,cb,cc,cd] p.1)).p u1 W)=>zNy (m:=80) (L:=yO ca cb cc cd p.1) (p:=(at_ [ca,cb,cc,cd] p.1)) (yW hI.2 h0 (s.up hb)) h1 (zJq hq4 p.1 (by omega)) (by decide) (by decide) (by have:=zFb ca cb cc cd p.1;omega)))<|zE) fun a w7 s hr=> ?_
   obtain ⟨v42,e42⟩: ∃v,a.tmps.getD 42 undef=v:=⟨_,rfl⟩
   have hv42:(SF.row 6 (pns (zHT (yO ca cb cc cd p.1) (at_ [ca,cb,cc,cd] p.1)))).p v42 w7:=e42▸(hr (_,_) mz5)
   replace s:=s.learn 42 v42 e42
   replace s:=s.keepK [(42, .u (UF.eq v42)),(36, .u (UF.eq (.bool ((onS ca cb (at_ [ca,cb,cc,cd] p.1))&&(onS cc cd (at_ [ca,cb,cc,cd] p.1)))))),(18, .u (UF.eq (.bool (decide (((p.1:Nat):Int)<4))))),(10, .u (UF.eq v16)),(9, .u (UF.eq p.2)),(11, .u (UF.eq (.int .i64 ((p.1:Nat):Int))))] (fmz ⟨.head _,fmz ⟨mz1,fmz ⟨mz2,fmz ⟨mz3,fmz ⟨mz4,fmz ⟨mz5,fnz⟩⟩⟩⟩⟩⟩)
   have s1:=s0.back s rfl
   replace s:StS _ _ _ [⟨7,30,CU.agg (fPV 80 cd),b7,true⟩,⟨6,30,CU.agg (fPV 80 cc),b6,true⟩,⟨5,30,CU.agg (fPV 80 cb),b5,true⟩,⟨4,30,CU.agg (fPV 80 ca),b4,true⟩] _ _ _ _:=s.freeze
   replace s:=s.reb rfl [(42, .u (UF.eq v42)),(36, .u (UF.eq (.bool ((onS ca cb (at_ [ca,cb,cc,cd] p.1))&&(onS cc cd (at_ [ca,cb,cc,cd] p.1)))))),(18, .u (UF.eq (.bool (decide (((p.1:Nat):Int)<4))))),(10, .u (UF.eq v16)),(9, .u (UF.eq p.2)),(11, .u (UF.eq (.int .i64 ((p.1:Nat):Int))))] (fmz ⟨.inl (.head _),fmz ⟨.inl mz1,fmz ⟨.inl mz2,fmz ⟨.inl mz3,fmz ⟨.inl mz4,fmz ⟨.inl mz5,fnz⟩⟩⟩⟩⟩⟩)
   replace s:=s.drop [9]
   refine yU (UF.eq v42) rfl s (by kernel_rfl) iiz fun a w s=> ?_
   refine zA rfl ?_
   refine qC 2 ((19, .s ((UF.eq (.int .i64 ((p.1:Nat):Int))).toSF))::(20, .u (UF.eq (.int .i64 ((p.1+1:Nat):Int)))):: []) s (by kernel_rfl)
    (oc zC<|oc (y7 .i64 ((p.1:Nat):Int) 1 ((p.1+1:Nat):Int) iiz iiz (wrap64 _ _ (by omega) (by omega)))<|zE) fun a w8 s=> ?_
   replace s:=s.drop [11]
   refine yU (UF.eq (.int .i64 ((p.1+1:Nat):Int))) rfl s (by kernel_rfl) iiz fun a w s=> ?_
   refine zA rfl ?_
   have hbw:=s.below
   replace s:=s1.back (s.keepK [(11, .u (UF.eq (.int .i64 ((p.1+1:Nat):Int)))),(20, .u (UF.eq (.int .i64 ((p.1+1:Nat):Int)))),(9, .u (UF.eq v42)),(42, .u (UF.eq v42)),(36, .u (UF.eq (.bool ((onS ca cb (at_ [ca,cb,cc,cd] p.1))&&(onS cc cd (at_ [ca,cb,cc,cd] p.1)))))),(18, .u (UF.eq (.bool (decide (((p.1:Nat):Int)<4))))),(10, .u (UF.eq v16))] (fmz ⟨.head _,fmz ⟨mz1,fmz ⟨mz2,fmz ⟨mz3,fmz ⟨mz4,fmz ⟨mz5,fmz ⟨mz6,fnz⟩⟩⟩⟩⟩⟩⟩)) rfl
   exact ⟨(p.1+1,v42),(by show 4 - (p.1+1)<4 - p.1;omega),⟨hk4,by show (SF.row 6 (pns (yO ca cb cc cd (p.1+1)))).p v42 _;rw [zQE e];exact (SF.row 6 _).st _ _ _ hv42 hbw⟩,s.keepK _ (fmz ⟨mz6,fmz ⟨mz2,fmz ⟨.head _,fnz⟩⟩⟩)⟩
  ·refine wpIn_skip ?_
   refine qC 2 ((19, .s ((UF.eq (.int .i64 ((p.1:Nat):Int))).toSF))::(20, .u (UF.eq (.int .i64 ((p.1+1:Nat):Int)))):: []) s (by kernel_rfl)
    (oc zC<|oc (y7 .i64 ((p.1:Nat):Int) 1 ((p.1+1:Nat):Int) iiz iiz (wrap64 _ _ (by omega) (by omega)))<|zE) fun a w9 s=> ?_
   replace s:=s.drop [11]
   refine yU (UF.eq (.int .i64 ((p.1+1:Nat):Int))) rfl s (by kernel_rfl) iiz fun a w s=> ?_
   refine zA rfl ?_
   have hbw:=s.below
   replace s:=s0.back (s.keepK [(11, .u (UF.eq (.int .i64 ((p.1+1:Nat):Int)))),(20, .u (UF.eq (.int .i64 ((p.1+1:Nat):Int)))),(36, .u (UF.eq (.bool ((onS ca cb (at_ [ca,cb,cc,cd] p.1))&&(onS cc cd (at_ [ca,cb,cc,cd] p.1)))))),(18, .u (UF.eq (.bool (decide (((p.1:Nat):Int)<4))))),(10, .u (UF.eq v16)),(9, .u (UF.eq p.2))] (fmz ⟨.head _,fmz ⟨mz1,fmz ⟨mz2,fmz ⟨mz3,fmz ⟨mz4,fmz ⟨mz5,fnz⟩⟩⟩⟩⟩⟩)) rfl
   exact ⟨(p.1+1,p.2),(by show 4 - (p.1+1)<4 - p.1;omega),⟨hk4,by show (SF.row 6 (pns (yO ca cb cc cd (p.1+1)))).p p.2 _;rw [zQF e];exact (SF.row 6 _).st _ _ _ hI.2 hbw⟩,s.keepK _ (fmz ⟨mz4,fmz ⟨mz5,fmz ⟨.head _,fnz⟩⟩⟩)⟩
 ·have hk:p.1=4:=by have h7:=of_decide_eq_false e;have h8:=hI.1;omega
  refine wpIn_exit ?_
  refine wpIn_seq ?_
  refine zB 2 ((43, .s ((UF.eq p.2).toSF))::(8, .u (UF.eq p.2)):: []) hmix s (by kernel_rfl)
   (oc zC<|oc zG<|zE) fun a w10 s=> ?_
  refine zA rfl ?_
  refine wpIn_ret ?_
  exact StS.resN s (hbX.trans (s0.below.mono hbX.size)) rfl (by rw [s.val (.head _)];have:=(SF.row 6 _).st _ _ _ hI.2 s.below;rw [hk] at this;exact this)
theorem zJV {W:World} {u v x y:Value} {ca cb cc cd:V2} (h1:(fPV 80 ca).p u W) (h2:(fPV 80 cb).p v W) (h3:(fPV 80 cc).p x W) (h4:(fPV 80 cd).p y W) (hab:zC2 ca cb) (hcd:zC2 cc cd) (hac:zC2 ca cc):Calls Tryz.prog 157 #[u,v,x,y] W (Ret W (zAQ (fPV 327 (yY ca cb cc cd)) (fB (!(decide ((dnm ca cb cc cd)=0))))).toSF):=by
 have hql:QB (yY ca cb cc cd).1 327∧QB (yY ca cb cc cd).2 327:=zNZ hab hcd
 have hqt:QB ((tnm ca cc cd) / (dnm ca cb cc cd)) 658:=((zOA hac hcd).div (zPg hab hcd)).mono (by decide)
 refine z7 [(fPV 80 ca).toSF,(fPV 80 cb).toSF,(fPV 80 cc).toSF,(fPV 80 cd).toSF] Tryz.func157 rfl (by kernel_rfl) ⟨h1,h2,h3,h4,trivial⟩ fun a s=> ?_
 refine wpIn_seq ?_
 refine zB 0 [] hmix s (by kernel_rfl)
  zE fun a w1 s=> ?_
 refine yJ (CU.agg (fPV 80 ca)) rfl s (by kernel_rfl) (fun v W h=>yP h) fun b4 a w s=> ?_
 refine yJ (CU.agg (fPV 80 cb)) rfl s (by kernel_rfl) (fun v W h=>yP h) fun b5 a w s=> ?_
 refine yJ (CU.agg (fPV 80 cc)) rfl s (by kernel_rfl) (fun v W h=>yP h) fun b6 a w s=> ?_
 refine yJ (CU.agg (fPV 80 cd)) rfl s (by kernel_rfl) (fun v W h=>yP h) fun b7 a w s=> ?_
 refine zY (CU.len 6) (cs:=zP6) (by kernel_rfl) rfl s (by kernel_rfl) (fun W=>rfl) rfl fun b8 a w s=> ?_
 refine yU (UF.eq (.bool false)) rfl s (by kernel_rfl) iiz fun a w s=> ?_
 refine zA rfl ?_
 refine wpIn_seq ?_
 have so:=s.old;have sg:=s.gr
 refine zBS (fun i=> [].contains i) [⟨6,10,30, [.bool false, .slice none 0 0, .slice none 0 0, .bool false, .slice none 0 0, .slice none 0 0],SF.newBox w 30 (CU.len 6)⟩,⟨7,11,30, [.bool false, .slice none 0 0, .slice none 0 0, .bool false, .slice none 0 0, .slice none 0 0],SF.newBox w 30 (CU.len 6)⟩] 8 ((15, .s ((fPV 80 cb).toSF))::(16, .s ((fPV 80 ca).toSF))::(17, .u (fPN ((cb).1 - (ca).1,(cb).2 - (ca).2)))::(18, .s ((fPV 80 cd).toSF))::(19, .s ((fPV 80 cc).toSF))::(20, .u (fPN ((cd).1 - (cc).1,(cd).2 - (cc).2)))::(10, .s (SF.newBox w 30 (CU.len 6)))::(11, .s (SF.newBox w 30 (CU.len 6))):: []) hmix s (fmz ⟨⟨by show 6<8;decide,mz6,⟨_,_,_,rfl⟩,by kernel_rfl,zCl (fun _=>rfl) rfl⟩,fmz ⟨⟨by show 7<8;decide,mz7,⟨_,_,_,rfl⟩,by kernel_rfl,zCl (fun _=>rfl) rfl⟩,fnz⟩⟩) (by kernel_rfl)
  (oc (zK (f:=fPV 80 cb) 6 (by kernel_rfl) (hz:=zP _ _))<|oc (zK (f:=fPV 80 ca) 6 (by kernel_rfl) (hz:=zP _ _))<|oc (zH zD zHj (fun u0 u1 W hb (h0:(fPV 80 cb).p u0 W) (h1:(fPV 80 ca).p u1 W)=>zCf (m:=80) (p:=cb) (q:=ca) h0 h1 (by decide) (by decide)))<|oc (zK (f:=fPV 80 cd) 6 (by kernel_rfl) (hz:=zP _ _))<|oc (zK (f:=fPV 80 cc) 6 (by kernel_rfl) (hz:=zP _ _))<|oc (zH zD zHj (fun u0 u1 W hb (h0:(fPV 80 cd).p u0 W) (h1:(fPV 80 cc).p u1 W)=>zCf (m:=80) (p:=cd) (q:=cc) h0 h1 (by decide) (by decide)))<|oc (zDk (cs:=zP6) (by kernel_rfl) (zCl (fun _=>rfl) rfl))<|oc (zDk (cs:=zP6) (by kernel_rfl) (zCl (fun _=>rfl) rfl))<|zE) fun Q' hQ a w2 s hr hd=> ?_
 obtain ⟨b10,hB10,e10,s⟩:=s.adoptA false 10 (hr (_,_) mz6) sg (fun y hy=> .inl (so y hy))
 obtain ⟨b11,hB11,e11,s⟩:=s.adoptA false 11 (hr (_,_) mz7) sg (fun y hy=>by rcases List.mem_cons.1 hy with rfl|hy;exact .inr (.inr fun b hb=>hd _ _ (.head _) mz1 (by show 6≠7;decide) _ _ e10 hb);exact .inl (so y hy))
 refine zV (CU.agg (fPN ((cb).1 - (ca).1,(cb).2 - (ca).2))) ((fPN ((cb).1 - (ca).1,(cb).2 - (ca).2)).toSF) rfl s (by kernel_rfl) rfl rfl rfl iiz iiz yR fun a w s=> ?_
 refine zV (CU.agg (fPN ((cd).1 - (cc).1,(cd).2 - (cc).2))) ((fPN ((cd).1 - (cc).1,(cd).2 - (cc).2)).toSF) rfl s (by kernel_rfl) rfl rfl rfl iiz iiz yR fun a w s=> ?_
 refine zA rfl (hQ _ _ ?_)
 refine wpIn_seq ?_
 refine zB 3 ((21, .s ((fPN ((cb).1 - (ca).1,(cb).2 - (ca).2)).toSF))::(22, .s ((fPN ((cd).1 - (cc).1,(cd).2 - (cc).2)).toSF))::(23, .u (fQN (dnm ca cb cc cd))):: []) hmix s (by kernel_rfl)
  (oc (zK (f:=fPN ((cb).1 - (ca).1,(cb).2 - (ca).2)) 6 (by kernel_rfl) (hz:=zP _ _))<|oc (zK (f:=fPN ((cd).1 - (cc).1,(cd).2 - (cc).2)) 6 (by kernel_rfl) (hz:=zP _ _))<|oc (zH zD zQI (fun u0 u1 W hb (h0:(fPN ((cb).1 - (ca).1,(cb).2 - (ca).2)).p u0 W) (h1:(fPN ((cd).1 - (cc).1,(cd).2 - (cc).2)).p u1 W)=>zGP (m:=82) (p:=((cb).1 - (ca).1,(cb).2 - (ca).2)) (q:=((cd).1 - (cc).1,(cd).2 - (cc).2)) (zBe (p:=((cb).1 - (ca).1,(cb).2 - (ca).2)) (m:=82) (hab.sub.1.mono (by first|omega|decide)) (hab.sub.2.mono (by first|omega|decide)) h0) (zBe (p:=((cd).1 - (cc).1,(cd).2 - (cc).2)) (m:=82) (hcd.sub.1.mono (by first|omega|decide)) (hcd.sub.2.mono (by first|omega|decide)) h1) hab.sub hcd.sub (by decide) (by decide)))<|zE) fun a w3 s=> ?_
 refine zY (CU.len 3) (cs:=zR3) (by kernel_rfl) rfl s (by kernel_rfl) (fun W=>rfl) rfl fun b12 a w s=> ?_
 refine zV (CU.agg (fQN (dnm ca cb cc cd))) ((fQN (dnm ca cb cc cd)).toSF) rfl s (by kernel_rfl) rfl rfl rfl iiz iiz yK fun a w s=> ?_
 refine zA rfl ?_
 refine wpIn_seq ?_
 have so:=s.old;have sg:=s.gr
 refine zBS (fun i=> [9].contains i) [⟨10,13,28, [.bool false, .slice none 0 0, .slice none 0 0],SF.newBox w 28 (CU.len 3)⟩] 11 ((25, .s ((fPV 80 cc).toSF))::(26, .s ((fPV 80 ca).toSF))::(27, .s ((fPN ((cc).1 - (ca).1,(cc).2 - (ca).2)).toSF))::(28, .s ((fPN ((cd).1 - (cc).1,(cd).2 - (cc).2)).toSF))::(29, .s ((fQN (tnm ca cc cd)).toSF))::(30, .s ((fQN (dnm ca cb cc cd)).toSF))::(31, .s ((zAQ (fQN ((tnm ca cc cd) / (dnm ca cb cc cd))) (UF.eq (.int .i64 (if (dnm ca cb cc cd)=0 then 30 else 0)))).toSF))::(24, .s ((zAQ (fQN ((tnm ca cc cd) / (dnm ca cb cc cd))) (UF.eq (.int .i64 (if (dnm ca cb cc cd)=0 then 30 else 0)))).toSF))::(32, .u (fQN ((tnm ca cc cd) / (dnm ca cb cc cd))))::(33, .u (UF.eq (.int .i64 (if (dnm ca cb cc cd)=0 then 30 else 0))))::(13, .s (SF.newBox w 28 (CU.len 3))):: []) hmix s (fmz ⟨⟨by show 10<11;decide,zTm,⟨_,_,_,rfl⟩,by kernel_rfl,zCl (fun _=>rfl) rfl⟩,fnz⟩) (by kernel_rfl)
  (oc (zK (f:=fPV 80 cc) 6 (by kernel_rfl) (hz:=zP _ _))<|oc (zK (f:=fPV 80 ca) 6 (by kernel_rfl) (hz:=zP _ _))<|oc (zH zD zHj (fun u0 u1 W hb (h0:(fPV 80 cc).p u0 W) (h1:(fPV 80 ca).p u1 W)=>zCf (m:=80) (p:=cc) (q:=ca) h0 h1 (by decide) (by decide)))<|oc (zK (f:=fPN ((cd).1 - (cc).1,(cd).2 - (cc).2)) 6 (by kernel_rfl) (hz:=zP _ _))<|oc (zH zD zQI (fun u0 u1 W hb (h0:(fPN ((cc).1 - (ca).1,(cc).2 - (ca).2)).p u0 W) (h1:(fPN ((cd).1 - (cc).1,(cd).2 - (cc).2)).p u1 W)=>zGP (m:=82) (p:=((cc).1 - (ca).1,(cc).2 - (ca).2)) (q:=((cd).1 - (cc).1,(cd).2 - (cc).2)) (zBe (p:=((cc).1 - (ca).1,(cc).2 - (ca).2)) (m:=82) (hac.sub.1.mono (by first|omega|decide)) (hac.sub.2.mono (by first|omega|decide)) h0) (zBe (p:=((cd).1 - (cc).1,(cd).2 - (cc).2)) (m:=82) (hcd.sub.1.mono (by first|omega|decide)) (hcd.sub.2.mono (by first|omega|decide)) h1) hac.sub hcd.sub (by decide) (by decide)))<|oc (zK (f:=fQN (dnm ca cb cc cd)) 3 (by kernel_rfl) (hz:=qX _))<|oc (zH zD zR8 (fun u0 u1 W hb (h0:QNp (tnm ca cc cd) u0 W) (h1:QNp (dnm ca cb cc cd) u1 W)=>zK6 (m:=329) (QNp.rv h0 (zOA hac hcd)) (QNp.rv h1 (zPg hab hcd)) (by decide) (by decide)))<|oc zC<|oc (zAY (A:=(fQN ((tnm ca cc cd) / (dnm ca cb cc cd))).toSF) (B:=(UF.eq (.int .i64 (if (dnm ca cb cc cd)=0 then 30 else 0))).toSF) iiz)<|oc (zAX (A:=(fQN ((tnm ca cc cd) / (dnm ca cb cc cd))).toSF) (B:=(UF.eq (.int .i64 (if (dnm ca cb cc cd)=0 then 30 else 0))).toSF) iiz)<|oc (zDk (cs:=zR3) (by kernel_rfl) (zCl (fun _=>rfl) rfl))<|zE) fun Q' hQ a w4 s hr hd=> ?_
 obtain ⟨b13,hB13,e13,s⟩:=s.adoptA false 13 (hr (_,_) zTm) sg (fun y hy=> .inl (so y hy))
 refine zV (CU.agg (fQN ((tnm ca cc cd) / (dnm ca cb cc cd)))) ((fQN ((tnm ca cc cd) / (dnm ca cb cc cd))).toSF) rfl s (by kernel_rfl) rfl rfl rfl iiz iiz yK fun a w s=> ?_
 refine yU (UF.eq (.int .i64 (if (dnm ca cb cc cd)=0 then 30 else 0))) rfl s (by kernel_rfl) iiz fun a w s=> ?_
 refine zA rfl (hQ _ _ ?_)
 refine wpIn_seq ?_
 refine wpIn_seq ?_
 refine zB 2 ((34, .s ((UF.eq (.int .i64 (if (dnm ca cb cc cd)=0 then 30 else 0))).toSF))::(35, .u (UF.eq (.bool (decide ((dnm ca cb cc cd)=0))))):: []) hmix s (by kernel_rfl)
  (oc zC<|oc (zQ .i64 (if (dnm ca cb cc cd)=0 then 30 else 0) 0 (decide ((dnm ca cb cc cd)=0)) iiz iiz (by show ((if (dnm ca cb cc cd)=0 then (30:Int) else 0) !=0)=_;by_cases h:(dnm ca cb cc cd)=0;(rw [if_pos h,decide_eq_true h];rfl);(rw [if_neg h,decide_eq_false h];rfl)) rfl)<|zE) fun a w5 s=> ?_
 refine zA rfl ?_
 refine StS.cond s (decide ((dnm ca cb cc cd)=0)) iiz (fun e=> ?_) (fun e=> ?_)
 ·have h00:=of_decide_eq_true e
  refine wpIn_seq ?_
  replace s:=s.drop [9]
  refine zB 1 ((36, .u (fPV 327 (yY ca cb cc cd))):: []) hmix s (by kernel_rfl)
   (oc (zH zD zGn (fun u0 u1 W hb (h0:u0= .int .i64 0) (h1:u1= .int .i64 0)=>(zDa h0 h1 (by decide) (by decide)).mono (Ret.to (fun v W h=>zBe (p:=(yY ca cb cc cd)) (m:=327) hql.1 hql.2 (by unfold yY;rw [if_pos h00];exact h)))))<|zE) fun a w6 s=> ?_
  refine zV (CU.agg (fPV 327 (yY ca cb cc cd))) ((fPV 327 (yY ca cb cc cd)).toSF) rfl s (by kernel_rfl) rfl rfl rfl iiz iiz yR fun a w s=> ?_
  refine yU (UF.eq (.bool false)) rfl s (by kernel_rfl) iiz fun a w s=> ?_
  refine zA rfl ?_
  refine wpIn_ret ?_
  exact StS.resCT s (CU.agg (fPV 327 (yY ca cb cc cd))) rfl (by kernel_rfl) rfl rfl (zP _ _) (fun cs v W h1 h2=>⟨_,_,rfl,h1,by rw [e];exact h2⟩)
 ·have h00:=of_decide_eq_false e
  refine wpIn_skip ?_
  refine wpIn_seq ?_
  replace s:=s.drop [9]
  refine zB 4 ((37, .s ((fPV 80 ca).toSF))::(38, .s ((fPV 80 cb).toSF))::(39, .s ((fQN ((tnm ca cc cd) / (dnm ca cb cc cd))).toSF))::(40, .u (fPV 327 (yY ca cb cc cd))):: []) hmix s (by kernel_rfl)
   (oc (zK (f:=fPV 80 ca) 6 (by kernel_rfl) (hz:=zP _ _))<|oc (zK (f:=fPV 80 cb) 6 (by kernel_rfl) (hz:=zP _ _))<|oc (zK (f:=fQN ((tnm ca cc cd) / (dnm ca cb cc cd))) 3 (by kernel_rfl) (hz:=qX _))<|oc (jZ zD zR5 (fun u0 u1 u2 W hb (h0:(fPV 80 ca).p u0 W) (h1:(fPV 80 cb).p u1 W) (h2:QNp ((tnm ca cc cd) / (dnm ca cb cc cd)) u2 W)=>(zOK (m:=80) (k:=658) 821 (p:=ca) (q:=cb) (t:=(tnm ca cc cd) / (dnm ca cb cc cd)) h0 h1 (QNp.rv h2 hqt) hab.one hab.two hqt (by decide) (by decide) (by decide)).mono (Ret.to (fun v W h=>zBe (p:=(yY ca cb cc cd)) (m:=327) hql.1 hql.2 (by unfold yY;rw [if_neg h00];exact h)))))<|zE) fun a w7 s=> ?_
  refine zV (CU.agg (fPV 327 (yY ca cb cc cd))) ((fPV 327 (yY ca cb cc cd)).toSF) rfl s (by kernel_rfl) rfl rfl rfl iiz iiz yR fun a w s=> ?_
  refine yU (UF.eq (.bool true)) rfl s (by kernel_rfl) iiz fun a w s=> ?_
  refine zA rfl ?_
  refine wpIn_ret ?_
  exact StS.resCT s (CU.agg (fPV 327 (yY ca cb cc cd))) rfl (by kernel_rfl) rfl rfl (zP _ _) (fun cs v W h1 h2=>⟨_,_,rfl,h1,by rw [e];exact h2⟩)
theorem zLe {W:World} {u v x y:Value} {ca cb cc cd:V2} (h1:(fPV 80 ca).p u W) (h2:(fPV 80 cb).p v W) (h3:(fPV 80 cc).p x W) (h4:(fPV 80 cd).p y W) (hab:zC2 ca cb) (hcd:zC2 cc cd) (hac:zC2 ca cc):Calls Tryz.prog 125 #[u,v,x,y] W (Ret W (fMT (zBv ca cb cc cd)).toSF):=by
 refine z7 [(fPV 80 ca).toSF,(fPV 80 cb).toSF,(fPV 80 cc).toSF,(fPV 80 cd).toSF] Tryz.func125 rfl (by kernel_rfl) ⟨h1,h2,h3,h4,trivial⟩ fun a s=> ?_
 replace s:=s.renew [(0, .u (fPV 80 ca)),(1, .u (fPV 80 cb)),(2, .u (fPV 80 cc)),(3, .u (fPV 80 cd))] (fmz ⟨.inr ⟨_,rfl, .head _⟩,fmz ⟨.inr ⟨_,rfl,mz1⟩,fmz ⟨.inr ⟨_,rfl,mz2⟩,fmz ⟨.inr ⟨_,rfl,mz3⟩,fnz⟩⟩⟩⟩)
 refine wpIn_seq ?_
 refine zB 0 [] hmix s (by kernel_rfl)
  zE fun a w1 s=> ?_
 refine yJ (CU.agg (fPV 80 ca)) rfl s (by kernel_rfl) (fun v W h=>yP h) fun b4 a w s=> ?_
 refine yJ (CU.agg (fPV 80 cb)) rfl s (by kernel_rfl) (fun v W h=>yP h) fun b5 a w s=> ?_
 refine yJ (CU.agg (fPV 80 cc)) rfl s (by kernel_rfl) (fun v W h=>yP h) fun b6 a w s=> ?_
 refine yJ (CU.agg (fPV 80 cd)) rfl s (by kernel_rfl) (fun v W h=>yP h) fun b7 a w s=> ?_
 refine zY (CU.len 13) (cs:= [.int .i8 0, .bool false, .slice none 0 0, .slice none 0 0, .bool false, .slice none 0 0, .slice none 0 0, .bool false, .slice none 0 0, .slice none 0 0, .bool false, .slice none 0 0, .slice none 0 0]) (by kernel_rfl) rfl s (by kernel_rfl) (fun W=>rfl) rfl fun b8 a w s=> ?_
 refine zA rfl ?_
 refine wpIn_seq ?_
 refine jW 5 ((12, .s ((fPV 80 ca).toSF))::(13, .s ((fPV 80 cb).toSF))::(14, .s ((fPV 80 cc).toSF))::(15, .s ((fPV 80 cd).toSF))::(16, .s (SF.row 6 (pns (yO ca cb cc cd 4)))):: []) hmix s (by kernel_rfl)
  (oc (zK (f:=fPV 80 ca) 6 (by kernel_rfl) (hz:=zP _ _))<|oc (zK (f:=fPV 80 cb) 6 (by kernel_rfl) (hz:=zP _ _))<|oc (zK (f:=fPV 80 cc) 6 (by kernel_rfl) (hz:=zP _ _))<|oc (zK (f:=fPV 80 cd) 6 (by kernel_rfl) (hz:=zP _ _))<|oc (zF5 zD zSn (fun u0 u1 u2 u3 W hb (h0:(fPV 80 ca).p u0 W) (h1:(fPV 80 cb).p u1 W) (h2:(fPV 80 cc).p u2 W) (h3:(fPV 80 cd).p u3 W)=>zLf h0 h1 h2 h3))<|zE) fun a w2 s hr=> ?_
 obtain ⟨v16,e16⟩: ∃v,a.tmps.getD 16 undef=v:=⟨_,rfl⟩
 have hv16:(SF.row 6 (pns (yO ca cb cc cd 4))).p v16 w2:=e16▸(hr (_,_) mz4)
 replace s:=s.learn 16 v16 e16
 replace s:=s.keepK [(16, .u (UF.eq v16)),(0, .u (fPV 80 ca)),(1, .u (fPV 80 cb)),(2, .u (fPV 80 cc)),(3, .u (fPV 80 cd))] (fmz ⟨.head _,fmz ⟨mz1,fmz ⟨mz2,fmz ⟨mz3,fmz ⟨mz4,fnz⟩⟩⟩⟩⟩)
 have s1:=s
 replace s:StS _ _ _ [⟨8,148,CU.len 13,b8,true⟩,⟨7,30,CU.agg (fPV 80 cd),b7,true⟩,⟨6,30,CU.agg (fPV 80 cc),b6,true⟩,⟨5,30,CU.agg (fPV 80 cb),b5,true⟩,⟨4,30,CU.agg (fPV 80 ca),b4,true⟩] _ _ _ _:=s.freeze
 replace s:=s.reb rfl [(16, .u (UF.eq v16)),(0, .u (fPV 80 ca)),(1, .u (fPV 80 cb)),(2, .u (fPV 80 cc)),(3, .u (fPV 80 cd))] (fmz ⟨.inl (.head _),fmz ⟨.inl mz1,fmz ⟨.inl mz2,fmz ⟨.inl mz3,fmz ⟨.inl mz4,fnz⟩⟩⟩⟩⟩)
 refine zOD (UF.eq v16) rfl s (by kernel_rfl) iiz fun a s=> ?_
 refine zA rfl ?_
 refine wpIn_seq ?_
 refine wpIn_seq ?_
 refine zB 3 ((17, .s ((UF.eq v16).toSF))::(18, .s ((UF.eq (.int .i64 (((pns (yO ca cb cc cd 4)).length:Nat):Int))).toSF))::(19, .u (UF.eq (.bool (decide ((((pns (yO ca cb cc cd 4)).length:Nat):Int)≥2))))):: []) hmix s (by kernel_rfl)
  (oc zC<|oc (y6 (z:=6) (Cs:=pns (yO ca cb cc cd 4)) (by kernel_rfl) (fun v W hb h=>(yW hv16 h (s.up hb))) (fun _=>rfl))<|oc (zQ .i64 (((pns (yO ca cb cc cd 4)).length:Nat):Int) 2 (decide ((((pns (yO ca cb cc cd 4)).length:Nat):Int)≥2)) iiz iiz rfl rfl)<|zE) fun a w3 s=> ?_
 refine zA rfl ?_
 refine StS.cond s (decide ((((pns (yO ca cb cc cd 4)).length:Nat):Int)≥2)) iiz (fun e=> ?_) (fun e=> ?_)
 ·have hlen:0<(yO ca cb cc cd 4).length:=by have:=of_decide_eq_true e;simp at this;omega
  have hk:zBv ca cb cc cd=2:=if_pos (of_decide_eq_true e)
  refine wpIn_seq ?_
  refine yL [0,3,4] 10 ((20, .s ((UF.eq v16).toSF))::(21, .s (SF.ptr (CU.agg (fPN (at_ (yO ca cb cc cd 4) 0))).cf))::(22, .s ((fPN (at_ (yO ca cb cc cd 4) 0)).toSF))::(23, .s ((UF.eq v16).toSF))::(24, .s ((UF.eq v16).toSF))::(25, .s ((UF.eq (.int .i64 (((pns (yO ca cb cc cd 4)).length:Nat):Int))).toSF))::(26, .s ((UF.eq (.int .i64 (((yO ca cb cc cd 4).length - 1:Nat):Int))).toSF))::(27, .s (SF.ptr (CU.agg (fPN (at_ (yO ca cb cc cd 4) ((yO ca cb cc cd 4).length - 1)))).cf))::(28, .s ((fPN (at_ (yO ca cb cc cd 4) ((yO ca cb cc cd 4).length - 1))).toSF))::(29, .u (fMT 2)):: []) hmix s (by kernel_rfl)
   (oc zC<|oc (jB (z:=6) (Cs:=pns (yO ca cb cc cd 4)) (i:=0) (C:=CU.agg (fPN (at_ (yO ca cb cc cd 4) 0))) (by kernel_rfl) (zCS (show 0<(yO ca cb cc cd 4).length by have hx:=hlen;omega)) (fun v W hb h=>(yW hv16 h (s.up hb))) iiz)<|oc (zK (f:=fPN (at_ (yO ca cb cc cd 4) 0)) 6 (by kernel_rfl) (hz:=zP _ _))<|oc zC<|oc zC<|oc (y6 (z:=6) (Cs:=pns (yO ca cb cc cd 4)) (by kernel_rfl) (fun v W hb h=>(yW hv16 h (s.up hb))) (fun _=>rfl))<|oc (zEZ .i64 (((pns (yO ca cb cc cd 4)).length:Nat):Int) 1 (((yO ca cb cc cd 4).length - 1:Nat):Int) iiz iiz (by have:=zFb ca cb cc cd 4;simp only [List.length_map];rw [IntKind.wrap_i64];omega))<|oc (jB (z:=6) (Cs:=pns (yO ca cb cc cd 4)) (i:=((yO ca cb cc cd 4).length - 1)) (C:=CU.agg (fPN (at_ (yO ca cb cc cd 4) ((yO ca cb cc cd 4).length - 1)))) (by kernel_rfl) (zCS (show ((yO ca cb cc cd 4).length - 1)<(yO ca cb cc cd 4).length by have hx:=hlen;omega)) (fun v W hb h=>(yW hv16 h (s.up hb))) iiz)<|oc (zK (f:=fPN (at_ (yO ca cb cc cd 4) ((yO ca cb cc cd 4).length - 1))) 6 (by kernel_rfl) (hz:=zP _ _))<|oc (zDj (fun u v q W (hu:u= .int .i8 2) (hv:(fPN (at_ (yO ca cb cc cd 4) 0)).p v W) (hq:(fPN (at_ (yO ca cb cc cd 4) ((yO ca cb cc cd 4).length - 1))).p q W)=>by rw [show u=_ from hu];exact zQT hv hq))<|zE) fun Q' hQ a w4 s=> ?_
  replace s:=s.keepK [(29, .u (fMT 2)),(19, .u (UF.eq (.bool (decide ((((pns (yO ca cb cc cd 4)).length:Nat):Int)≥2))))),(9, .u (UF.eq v16)),(16, .u (UF.eq v16)),(0, .u (fPV 80 ca)),(1, .u (fPV 80 cb)),(2, .u (fPV 80 cc)),(3, .u (fPV 80 cd))] (fmz ⟨.head _,fmz ⟨mz1,fmz ⟨mz2,fmz ⟨mz3,fmz ⟨mz4,fmz ⟨mz5,fmz ⟨mz6,fmz ⟨mz7,fnz⟩⟩⟩⟩⟩⟩⟩⟩)
  replace s:=s1.thaw s rfl
  refine zV (CU.agg (fMT 2)) ((fMT 2).toSF) rfl s (by kernel_rfl) rfl rfl rfl iiz iiz (zDn _) fun a w s=> ?_
  refine zA rfl (hQ _ _ ?_)
  refine wpIn_ret ?_
  exact StS.resC s (CU.agg (fMT 2)) rfl (by kernel_rfl) rfl rfl (zI6 _) (fun cs W h=>by rw [hk];exact h)
 ·have e2:=of_decide_eq_false e
  refine wpIn_skip ?_
  refine wpIn_seq ?_
  refine wpIn_seq ?_
  refine zB 3 ((30, .s ((UF.eq v16).toSF))::(31, .s ((UF.eq (.int .i64 (((pns (yO ca cb cc cd 4)).length:Nat):Int))).toSF))::(32, .u (UF.eq (.bool ((((pns (yO ca cb cc cd 4)).length:Nat):Int)==1)))):: []) hmix s (by kernel_rfl)
   (oc zC<|oc (y6 (z:=6) (Cs:=pns (yO ca cb cc cd 4)) (by kernel_rfl) (fun v W hb h=>(yW hv16 h (s.up hb))) (fun _=>rfl))<|oc (zQ .i64 (((pns (yO ca cb cc cd 4)).length:Nat):Int) 1 ((((pns (yO ca cb cc cd 4)).length:Nat):Int)==1) iiz iiz rfl rfl)<|zE) fun a w5 s=> ?_
  refine zA rfl ?_
  refine StS.cond s ((((pns (yO ca cb cc cd 4)).length:Nat):Int)==1) iiz (fun e=> ?_) (fun e=> ?_)
  ·have hlen:0<(yO ca cb cc cd 4).length:=by have:=beq_iff_eq.1 e;simp at this;omega
   have hk:zBv ca cb cc cd=1:=by unfold zBv;rw [if_neg e2,if_pos e]
   refine wpIn_seq ?_
   refine yL [0,3] 7 ((33, .s ((UF.eq v16).toSF))::(34, .s (SF.ptr (CU.agg (fPN (at_ (yO ca cb cc cd 4) 0))).cf))::(35, .s ((fPN (at_ (yO ca cb cc cd 4) 0)).toSF))::(36, .s ((UF.eq v16).toSF))::(37, .s (SF.ptr (CU.agg (fPN (at_ (yO ca cb cc cd 4) 0))).cf))::(38, .s ((fPN (at_ (yO ca cb cc cd 4) 0)).toSF))::(39, .u (fMT 1)):: []) hmix s (by kernel_rfl)
    (oc zC<|oc (jB (z:=6) (Cs:=pns (yO ca cb cc cd 4)) (i:=0) (C:=CU.agg (fPN (at_ (yO ca cb cc cd 4) 0))) (by kernel_rfl) (zCS (show 0<(yO ca cb cc cd 4).length by have hx:=hlen;omega)) (fun v W hb h=>(yW hv16 h (s.up hb))) iiz)<|oc (zK (f:=fPN (at_ (yO ca cb cc cd 4) 0)) 6 (by kernel_rfl) (hz:=zP _ _))<|oc zC<|oc (jB (z:=6) (Cs:=pns (yO ca cb cc cd 4)) (i:=0) (C:=CU.agg (fPN (at_ (yO ca cb cc cd 4) 0))) (by kernel_rfl) (zCS (show 0<(yO ca cb cc cd 4).length by have hx:=hlen;omega)) (fun v W hb h=>(yW hv16 h (s.up hb))) iiz)<|oc (zK (f:=fPN (at_ (yO ca cb cc cd 4) 0)) 6 (by kernel_rfl) (hz:=zP _ _))<|oc (zDj (fun u v q W (hu:u= .int .i8 1) (hv:(fPN (at_ (yO ca cb cc cd 4) 0)).p v W) (hq:(fPN (at_ (yO ca cb cc cd 4) 0)).p q W)=>by rw [show u=_ from hu];exact zQT hv hq))<|zE) fun Q' hQ a w6 s=> ?_
   replace s:=s.keepK [(39, .u (fMT 1)),(32, .u (UF.eq (.bool ((((pns (yO ca cb cc cd 4)).length:Nat):Int)==1)))),(19, .u (UF.eq (.bool (decide ((((pns (yO ca cb cc cd 4)).length:Nat):Int)≥2))))),(9, .u (UF.eq v16)),(16, .u (UF.eq v16)),(0, .u (fPV 80 ca)),(1, .u (fPV 80 cb)),(2, .u (fPV 80 cc)),(3, .u (fPV 80 cd))] (fmz ⟨.head _,fmz ⟨mz1,fmz ⟨mz2,fmz ⟨mz3,fmz ⟨mz4,fmz ⟨mz5,fmz ⟨mz6,fmz ⟨mz7,fmz ⟨mz8,fnz⟩⟩⟩⟩⟩⟩⟩⟩⟩)
   replace s:=s1.thaw s rfl
   refine zV (CU.agg (fMT 1)) ((fMT 1).toSF) rfl s (by kernel_rfl) rfl rfl rfl iiz iiz (zDn _) fun a w s=> ?_
   refine zA rfl (hQ _ _ ?_)
   refine wpIn_ret ?_
   exact StS.resC s (CU.agg (fMT 1)) rfl (by kernel_rfl) rfl rfl (zI6 _) (fun cs W h=>by rw [hk];exact h)
  ·have e3:=e
   replace s:=s.keepK [(32, .u (UF.eq (.bool ((((pns (yO ca cb cc cd 4)).length:Nat):Int)==1)))),(19, .u (UF.eq (.bool (decide ((((pns (yO ca cb cc cd 4)).length:Nat):Int)≥2))))),(9, .u (UF.eq v16)),(16, .u (UF.eq v16)),(0, .u (fPV 80 ca)),(1, .u (fPV 80 cb)),(2, .u (fPV 80 cc)),(3, .u (fPV 80 cd))] (fmz ⟨.head _,fmz ⟨mz1,fmz ⟨mz2,fmz ⟨mz3,fmz ⟨mz4,fmz ⟨mz5,fmz ⟨mz6,fmz ⟨mz7,fnz⟩⟩⟩⟩⟩⟩⟩⟩)
   replace s:=s1.thaw s rfl
   refine wpIn_skip ?_
   refine wpIn_seq ?_
   refine zB 8 ((41, .s ((fPV 80 ca).toSF))::(42, .s ((fPV 80 cb).toSF))::(43, .s ((fPV 80 cc).toSF))::(44, .s ((fPV 80 cd).toSF))::(45, .s ((zAQ (fPV 327 (yY ca cb cc cd)) (UF.eq (.bool (!(decide ((dnm ca cb cc cd)=0)))))).toSF))::(40, .s ((zAQ (fPV 327 (yY ca cb cc cd)) (UF.eq (.bool (!(decide ((dnm ca cb cc cd)=0)))))).toSF))::(46, .u (fPV 327 (yY ca cb cc cd)))::(47, .u (UF.eq (.bool (!(decide ((dnm ca cb cc cd)=0)))))):: []) hmix s (by kernel_rfl)
    (oc (zK (f:=fPV 80 ca) 6 (by kernel_rfl) (hz:=zP _ _))<|oc (zK (f:=fPV 80 cb) 6 (by kernel_rfl) (hz:=zP _ _))<|oc (zK (f:=fPV 80 cc) 6 (by kernel_rfl) (hz:=zP _ _))<|oc (zK (f:=fPV 80 cd) 6 (by kernel_rfl) (hz:=zP _ _))<|oc (zF5 zD zSm (fun u0 u1 u2 u3 W hb (h0:(fPV 80 ca).p u0 W) (h1:(fPV 80 cb).p u1 W) (h2:(fPV 80 cc).p u2 W) (h3:(fPV 80 cd).p u3 W)=>zJV h0 h1 h2 h3 hab hcd hac))<|oc zC<|oc (zAY (A:=(fPV 327 (yY ca cb cc cd)).toSF) (B:=(UF.eq (.bool (!(decide ((dnm ca cb cc cd)=0))))).toSF) iiz)<|oc (zAX (A:=(fPV 327 (yY ca cb cc cd)).toSF) (B:=(UF.eq (.bool (!(decide ((dnm ca cb cc cd)=0))))).toSF) iiz)<|zE) fun a w7 s=> ?_
   refine zY (CU.len 6) (cs:=zP6) (by kernel_rfl) rfl s (by kernel_rfl) (fun W=>rfl) rfl fun b10 a w s=> ?_
   refine zV (CU.agg (fPV 327 (yY ca cb cc cd))) ((fPV 327 (yY ca cb cc cd)).toSF) rfl s (by kernel_rfl) rfl rfl rfl iiz iiz yR fun a w s=> ?_
   refine yU (UF.eq (.bool (!(decide ((dnm ca cb cc cd)=0))))) rfl s (by kernel_rfl) iiz fun a w s=> ?_
   refine zA rfl ?_
   refine wpIn_seq ?_
   refine wpIn_seq ?_
   refine zB 13 ((48, .s ((UF.eq (.bool (!(decide ((dnm ca cb cc cd)=0))))).toSF))::(49, .s ((UF.eq (.bool (!(decide ((dnm ca cb cc cd)=0))))).toSF))::(50, .s (SF.imp ((!(decide ((dnm ca cb cc cd)=0)))=true) ((fPV 80 ca).toSF)))::(51, .s (SF.imp ((!(decide ((dnm ca cb cc cd)=0)))=true) ((fPV 80 cb).toSF)))::(52, .s (SF.imp ((!(decide ((dnm ca cb cc cd)=0)))=true) ((fPV 327 (yY ca cb cc cd)).toSF)))::(53, .s (SF.imp ((!(decide ((dnm ca cb cc cd)=0)))=true) ((UF.eq (.bool (onS ca cb (yY ca cb cc cd)))).toSF)))::(54, .s ((UF.eq (.bool ((!(decide ((dnm ca cb cc cd)=0)))&&(onS ca cb (yY ca cb cc cd))))).toSF))::(55, .s ((UF.eq (.bool ((!(decide ((dnm ca cb cc cd)=0)))&&(onS ca cb (yY ca cb cc cd))))).toSF))::(56, .s (SF.imp (((!(decide ((dnm ca cb cc cd)=0)))&&(onS ca cb (yY ca cb cc cd)))=true) ((fPV 80 cc).toSF)))::(57, .s (SF.imp (((!(decide ((dnm ca cb cc cd)=0)))&&(onS ca cb (yY ca cb cc cd)))=true) ((fPV 80 cd).toSF)))::(58, .s (SF.imp (((!(decide ((dnm ca cb cc cd)=0)))&&(onS ca cb (yY ca cb cc cd)))=true) ((fPV 327 (yY ca cb cc cd)).toSF)))::(59, .s (SF.imp (((!(decide ((dnm ca cb cc cd)=0)))&&(onS ca cb (yY ca cb cc cd)))=true) ((UF.eq (.bool (onS cc cd (yY ca cb cc cd)))).toSF)))::(60, .u (UF.eq (.bool (((!(decide ((dnm ca cb cc cd)=0)))&&(onS ca cb (yY ca cb cc cd)))&&(onS cc cd (yY ca cb cc cd)))))):: []) hmix s (by kernel_rfl)
    (oc zC<|oc zC<|oc (zF 49 (!(decide ((dnm ca cb cc cd)=0))) (by kernel_rfl) iiz (fun e=>zR [] ((fPV 80 ca).toSF) fnz (fun _ _ h _=>h) (by kernel_rfl) (zK (f:=fPV 80 ca) 6 (by kernel_rfl) (hz:=zP _ _))) (fun e W h=>absurd h e))<|oc (zF 49 (!(decide ((dnm ca cb cc cd)=0))) (by kernel_rfl) iiz (fun e=>zR [] ((fPV 80 cb).toSF) fnz (fun _ _ h _=>h) (by kernel_rfl) (zK (f:=fPV 80 cb) 6 (by kernel_rfl) (hz:=zP _ _))) (fun e W h=>absurd h e))<|oc (zF 49 (!(decide ((dnm ca cb cc cd)=0))) (by kernel_rfl) iiz (fun e=>zR [] ((fPV 327 (yY ca cb cc cd)).toSF) fnz (fun _ _ h _=>h) (by kernel_rfl) (zK (f:=fPV 327 (yY ca cb cc cd)) 6 (by kernel_rfl) (hz:=zP _ _))) (fun e W h=>absurd h e))<|oc (zF 49 (!(decide ((dnm ca cb cc cd)=0))) (by kernel_rfl) iiz (fun e=>zR [(50,(fPV 80 ca).toSF),(51,(fPV 80 cb).toSF),(52,(fPV 327 (yY ca cb cc cd)).toSF)] ((UF.eq (.bool (onS ca cb (yY ca cb cc cd)))).toSF) (fmz ⟨fun v W h=>zJ (c:=(!(decide ((dnm ca cb cc cd)=0)))=true) (f:=(fPV 80 ca).toSF) e h,fmz ⟨fun v W h=>zJ (c:=(!(decide ((dnm ca cb cc cd)=0)))=true) (f:=(fPV 80 cb).toSF) e h,fmz ⟨fun v W h=>zJ (c:=(!(decide ((dnm ca cb cc cd)=0)))=true) (f:=(fPV 327 (yY ca cb cc cd)).toSF) e h,fnz⟩⟩⟩) (fun _ _ h _=>h) (by kernel_rfl) (jZ zD zJt (fun u0 u1 u2 W hb (h0:(fPV 80 ca).p u0 W) (h1:(fPV 80 cb).p u1 W) (h2:(fPV 327 (yY ca cb cc cd)).p u2 W)=>zFX (m:=80) (M:=327) h0 h1 h2 (by decide) (by decide) (by decide) (by decide)))) (fun e W h=>absurd h e))<|oc (yF (!(decide ((dnm ca cb cc cd)=0))) iiz (fun e v W h=>jQ (zJ e h) e) (fun e v W h=>qY h e))<|oc zC<|oc (zF 55 ((!(decide ((dnm ca cb cc cd)=0)))&&(onS ca cb (yY ca cb cc cd))) (by kernel_rfl) iiz (fun e=>zR [] ((fPV 80 cc).toSF) fnz (fun _ _ h _=>h) (by kernel_rfl) (zK (f:=fPV 80 cc) 6 (by kernel_rfl) (hz:=zP _ _))) (fun e W h=>absurd h e))<|oc (zF 55 ((!(decide ((dnm ca cb cc cd)=0)))&&(onS ca cb (yY ca cb cc cd))) (by kernel_rfl) iiz (fun e=>zR [] ((fPV 80 cd).toSF) fnz (fun _ _ h _=>h) (by kernel_rfl) (zK (f:=fPV 80 cd) 6 (by kernel_rfl) (hz:=zP _ _))) (fun e W h=>absurd h e))<|oc (zF 55 ((!(decide ((dnm ca cb cc cd)=0)))&&(onS ca cb (yY ca cb cc cd))) (by kernel_rfl) iiz (fun e=>zR [] ((fPV 327 (yY ca cb cc cd)).toSF) fnz (fun _ _ h _=>h) (by kernel_rfl) (zK (f:=fPV 327 (yY ca cb cc cd)) 6 (by kernel_rfl) (hz:=zP _ _))) (fun e W h=>absurd h e))<|oc (zF 55 ((!(decide ((dnm ca cb cc cd)=0)))&&(onS ca cb (yY ca cb cc cd))) (by kernel_rfl) iiz (fun e=>zR [(56,(fPV 80 cc).toSF),(57,(fPV 80 cd).toSF),(58,(fPV 327 (yY ca cb cc cd)).toSF)] ((UF.eq (.bool (onS cc cd (yY ca cb cc cd)))).toSF) (fmz ⟨fun v W h=>zJ (c:=((!(decide ((dnm ca cb cc cd)=0)))&&(onS ca cb (yY ca cb cc cd)))=true) (f:=(fPV 80 cc).toSF) e h,fmz ⟨fun v W h=>zJ (c:=((!(decide ((dnm ca cb cc cd)=0)))&&(onS ca cb (yY ca cb cc cd)))=true) (f:=(fPV 80 cd).toSF) e h,fmz ⟨fun v W h=>zJ (c:=((!(decide ((dnm ca cb cc cd)=0)))&&(onS ca cb (yY ca cb cc cd)))=true) (f:=(fPV 327 (yY ca cb cc cd)).toSF) e h,fnz⟩⟩⟩) (fun _ _ h _=>h) (by kernel_rfl) (jZ zD zJt (fun u0 u1 u2 W hb (h0:(fPV 80 cc).p u0 W) (h1:(fPV 80 cd).p u1 W) (h2:(fPV 327 (yY ca cb cc cd)).p u2 W)=>zFX (m:=80) (M:=327) h0 h1 h2 (by decide) (by decide) (by decide) (by decide)))) (fun e W h=>absurd h e))<|oc (yF ((!(decide ((dnm ca cb cc cd)=0)))&&(onS ca cb (yY ca cb cc cd))) iiz (fun e v W h=>jQ (zJ e h) e) (fun e v W h=>qY h e))<|zE) fun a w8 s=> ?_
   refine zA rfl ?_
   refine StS.cond s (((!(decide ((dnm ca cb cc cd)=0)))&&(onS ca cb (yY ca cb cc cd)))&&(onS cc cd (yY ca cb cc cd))) iiz (fun e=> ?_) (fun e=> ?_)
   ·have hk:zBv ca cb cc cd=1:=by unfold zBv;rw [if_neg e2,if_neg (by rw [e3];decide),if_pos e]
    refine wpIn_seq ?_
    refine zB 3 ((61, .s ((fPV 327 (yY ca cb cc cd)).toSF))::(62, .s ((fPV 327 (yY ca cb cc cd)).toSF))::(63, .u (fMT 1)):: []) hmix s (by kernel_rfl)
     (oc (zK (f:=fPV 327 (yY ca cb cc cd)) 6 (by kernel_rfl) (hz:=zP _ _))<|oc (zK (f:=fPV 327 (yY ca cb cc cd)) 6 (by kernel_rfl) (hz:=zP _ _))<|oc (zDj (fun u v q W (hu:u= .int .i8 1) (hv:(fPV 327 (yY ca cb cc cd)).p v W) (hq:(fPV 327 (yY ca cb cc cd)).p q W)=>by rw [show u=_ from hu];exact zQT hv hq))<|zE) fun a w9 s=> ?_
    refine zV (CU.agg (fMT 1)) ((fMT 1).toSF) rfl s (by kernel_rfl) rfl rfl rfl iiz iiz (zDn _) fun a w s=> ?_
    refine zA rfl ?_
    refine wpIn_ret ?_
    exact StS.resC s (CU.agg (fMT 1)) rfl (by kernel_rfl) rfl rfl (zI6 _) (fun cs W h=>by rw [hk];exact h)
   ·have hk:zBv ca cb cc cd=0:=by unfold zBv;rw [if_neg e2,if_neg (by rw [e3];decide),if_neg (by rw [e];decide)]
    refine wpIn_skip ?_
    refine wpIn_seq ?_
    refine zB 3 ((64, .s ((fPN (((0:Int):Rat),((0:Int):Rat))).toSF))::(65, .s ((fPN (((0:Int):Rat),((0:Int):Rat))).toSF))::(66, .u (fMT 0)):: []) hmix s (by kernel_rfl)
     (oc (zH zD zGn (fun u0 u1 W hb (h0:u0= .int .i64 0) (h1:u1= .int .i64 0)=>zDa h0 h1 (by decide) (by decide)))<|oc (zH zD zGn (fun u0 u1 W hb (h0:u0= .int .i64 0) (h1:u1= .int .i64 0)=>zDa h0 h1 (by decide) (by decide)))<|oc (qM (fun u v W (hu:(fPN (((0:Int):Rat),((0:Int):Rat))).p u W) (hv:(fPN (((0:Int):Rat),((0:Int):Rat))).p v W)=>zTL hu hv))<|zE) fun a w10 s=> ?_
    refine zV (CU.agg (fMT 0)) ((fMT 0).toSF) rfl s (by kernel_rfl) rfl rfl rfl iiz iiz (zDn _) fun a w s=> ?_
    refine zA rfl ?_
    refine wpIn_ret ?_
    exact StS.resC s (CU.agg (fMT 0)) rfl (by kernel_rfl) rfl rfl (zI6 _) (fun cs W h=>by rw [hk];exact h)
end Go.Proofs.Wd

namespace Go.Proofs.Wd
set_option maxRecDepth 100000
set_option maxHeartbeats 1000000
open Go.RowKit Lb
def zAO (ps:List V2) (k i:Nat):Bool:=if i=k+1∨(k=0∧i=ps.length - 1) then zBv (at_ ps k) (at_ ps ((k+1) % ps.length)) (at_ ps i) (at_ ps ((i+1) % ps.length))==1 else zBv (at_ ps k) (at_ ps ((k+1) % ps.length)) (at_ ps i) (at_ ps ((i+1) % ps.length))==0
def zQz (ps:List V2) (i k:Nat):Bool:= !((zAT (at_ ps i) (at_ ps k)==0)|| !(zAO ps k i))
def zCK (ps:List V2):Bool:=decide (3≤ps.length)&&(List.range ps.length).all fun i=>(List.range i).all fun k=>zQz ps i k
theorem zID {ps:List V2} (h:ps.length<3):zCK ps=false:=by
 unfold zCK
 rw [decide_eq_false (by omega),Bool.false_and]
theorem zPD {ps:List V2} {i k:Nat} (hi:i<ps.length) (hk:k<i) (h:((zAT (at_ ps i) (at_ ps k)==0)|| !(zAO ps k i))=true):zCK ps=false:=by
 unfold zCK
 rw [Bool.and_eq_false_iff]
 right
 rw [List.all_eq_false]
 refine ⟨i,List.mem_range.2 hi, ?_⟩
 rw [Bool.not_eq_true,List.all_eq_false]
 refine ⟨k,List.mem_range.2 hk, ?_⟩
 unfold zQz
 rw [h]
 decide
theorem zNc {ps:List V2} (h3:3≤ps.length) (h: ∀i k,i<ps.length→k<i→((zAT (at_ ps i) (at_ ps k)==0)|| !(zAO ps k i))=false):zCK ps=true:=by
 unfold zCK
 rw [decide_eq_true h3,Bool.true_and,List.all_eq_true]
 intro i hi
 rw [List.all_eq_true]
 intro k hk
 unfold zQz
 rw [h i k (List.mem_range.1 hi) (List.mem_range.1 hk)]
 rfl
theorem zET {m:Nat} {W:World} {l u:Value} {ps:List V2} {k:Nat} (hl:(SF.row 6 (pvs m ps)).p l W) (hu:u= .int .i64 ((k:Nat):Int)) (hk:k<ps.length) (hn:ps.length≤1000000) (h2:2≤ps.length):Calls Tryz.prog 32 #[l,u] W (Ret W (zB7 (fPV m (at_ ps k)) (fPV m (at_ ps ((k+1) % ps.length))) (fB true)).toSF):=by
 have hk1:(k+1) % ps.length<ps.length:=Nat.mod_lt _ (by omega)
 refine z7 [(UF.eq l).toSF,(UF.eq (.int .i64 ((k:Nat):Int))).toSF] Tryz.func32 rfl (by kernel_rfl) ⟨rfl,hu,trivial⟩ fun a s=> ?_
 replace s:=s.renew [(0, .u (UF.eq l)),(1, .u (UF.eq (.int .i64 ((k:Nat):Int))))] (fmz ⟨.inr ⟨_,rfl, .head _⟩,fmz ⟨.inr ⟨_,rfl,mz1⟩,fnz⟩⟩)
 refine wpIn_seq ?_
 refine zB 0 [] hmix s (by kernel_rfl)
  zE fun a w1 s=> ?_
 refine zY (CU.agg (fPV m (((0:Rat),(0:Rat)):V2))) (cs:=ptZ) (by kernel_rfl) rfl s (by kernel_rfl) (fun W=>zDL m W) rfl fun b4 a w s=> ?_
 refine zY (CU.agg (fPV m (((0:Rat),(0:Rat)):V2))) (cs:=ptZ) (by kernel_rfl) rfl s (by kernel_rfl) (fun W=>zDL m W) rfl fun b5 a w s=> ?_
 refine yU (UF.eq (.bool false)) rfl s (by kernel_rfl) iiz fun a w s=> ?_
 refine zA rfl ?_
 refine wpIn_seq ?_
 refine wpIn_seq ?_
 refine zB 13 ((7, .s ((UF.eq l).toSF))::(8, .s ((UF.eq (.int .i64 (((pvs m ps).length:Nat):Int))).toSF))::(9, .s ((UF.eq (.bool false)).toSF))::(10, .s ((UF.eq (.bool false)).toSF))::(11, .s ((UF.eq (.int .i64 ((k:Nat):Int))).toSF))::(12, .s ((UF.eq (.bool false)).toSF))::(13, .s ((UF.eq (.bool false)).toSF))::(14, .s ((UF.eq (.bool false)).toSF))::(15, .s ((UF.eq (.int .i64 ((k:Nat):Int))).toSF))::(16, .s ((UF.eq l).toSF))::(17, .s ((UF.eq (.int .i64 (((pvs m ps).length:Nat):Int))).toSF))::(18, .s ((UF.eq (.bool false)).toSF))::(19, .u (UF.eq (.bool false))):: []) hmix s (by kernel_rfl)
  (oc zC<|oc (y6 (z:=6) (Cs:=pvs m ps) (by kernel_rfl) (fun v W hb h=>(yW hl h (s.up hb))) (fun _=>rfl))<|oc (zQ .i64 (((pvs m ps).length:Nat):Int) 2 false iiz iiz (by first|(simp;omega)|simp) rfl)<|oc zC<|oc (zF 10 false (by kernel_rfl) iiz (fun _=>zC) arf)<|oc (zF 10 false (by kernel_rfl) iiz (fun _=>zQ .i64 ((k:Nat):Int) 0 false iiz iiz (by first|(simp;omega)|simp) rfl) arf)<|oc (yF false iiz (fun e=>by cases e) (fun _ _ _ h=>h))<|oc zC<|oc (zF 14 false (by kernel_rfl) iiz (fun _=>zC) arf)<|oc (zF 14 false (by kernel_rfl) iiz (fun _=>zC) arf)<|oc (zF 14 false (by kernel_rfl) iiz (fun _=>y6 (z:=6) (Cs:=pvs m ps) (by kernel_rfl) (fun v W hb h=>(yW hl h (s.up hb))) (fun _=>rfl)) arf)<|oc (zF 14 false (by kernel_rfl) iiz (fun _=>zQ .i64 ((k:Nat):Int) (((pvs m ps).length:Nat):Int) false iiz iiz (by first|(simp;omega)|simp) rfl) arf)<|oc (yF false iiz (fun e=>by cases e) (fun _ _ _ h=>h))<|zE) fun a w2 s=> ?_
 refine zA rfl ?_
 refine StS.cond s false iiz (fun e=>by cases e) (fun e=> ?_)
 refine wpIn_skip ?_
 refine wpIn_seq ?_
 have hwb:=s.below
 replace s:=s.drop [6]
 refine zDH (GW W) hmix s fun w3 _ s=> ?_
 have hwb:=s.below
 refine zA4 [4,5,6,7,8,9,10,11] [0,1,2,3,4,5,6,7,8,9,10,11] ((22, .u (UF.eq l))::(23, .u (UF.eq (.int .i64 ((k:Nat):Int))))::(24, .u (fOp W (CU.agg (fPV m (at_ ps k)))))::(25, .u (fPV m (at_ ps k)))::(26, .u (UF.eq l))::(27, .u (UF.eq (.int .i64 ((k:Nat):Int))))::(28, .u (UF.eq (.int .i64 ((k+1:Nat):Int))))::(29, .u (UF.eq l))::(30, .u (UF.eq (.int .i64 (((pvs m ps).length:Nat):Int))))::(31, .u (UF.eq (.int .i64 (((k+1) % ps.length:Nat):Int))))::(32, .u (fOp W (CU.agg (fPV m (at_ ps ((k+1) % ps.length))))))::(33, .u (fPV m (at_ ps ((k+1) % ps.length)))):: []) (zE9 hwb) s (by kernel_rfl)
  (oc zC<|oc zC<|oc (zDh (z:=6) (Cs:=pvs m ps) (i:=k) (C:=CU.agg (fPV m (at_ ps k))) (by kernel_rfl) (jD hk) hl iiz iiz)<|oc (zEs hwb (fPV m (at_ ps k)) 6 (by kernel_rfl) iiz zBT)<|oc zC<|oc zC<|oc (y7 .i64 ((k:Nat):Int) 1 ((k+1:Nat):Int) iiz iiz (wrap64 _ _ (by omega) (by omega)))<|oc zC<|oc (y6 (z:=6) (Cs:=pvs m ps) (by kernel_rfl) (fun v W hb h=>by rw [show _=l from h];exact (SF.row 6 (pvs m ps)).st _ _ _ hl (s.up hb)) (fun _=>rfl))<|oc (zCU .i64 ((k+1:Nat):Int) (((pvs m ps).length:Nat):Int) (((k+1) % ps.length:Nat):Int) iiz iiz (by simp only [List.length_map];omega) (by simp only [List.length_map];rw [Int.tmod_eq_emod_of_nonneg (by omega)];rfl))<|oc (zDh (z:=6) (Cs:=pvs m ps) (i:=((k+1) % ps.length)) (C:=CU.agg (fPV m (at_ ps ((k+1) % ps.length)))) (by kernel_rfl) (jD hk1) hl iiz iiz)<|oc (zEs hwb (fPV m (at_ ps ((k+1) % ps.length))) 6 (by kernel_rfl) iiz zBT)<|zE)
  (qO rfl (zC3.c zCu hwb) (qO rfl (zC3.c zCu hwb) (qO rfl (zC3.c (zMh (x:= .tmp 27) (y:= .const (.int .i64 1)) .i64 ((k:Nat):Int) 1 iiz iiz) hwb) (qO rfl (zC3.c zCu hwb) (qO rfl (zC3.c (zO0 (x:= .tmp 29) (z:=6) (Cs:=pvs m ps) (by kernel_rfl) (fun v W hb h=>by rw [show _=l from h];exact (SF.row 6 (pvs m ps)).st _ _ _ hl hb)) hwb) (qO rfl (zC3.c (zMg (x:= .tmp 28) (y:= .tmp 30) .i64 ((k+1:Nat):Int) (((pvs m ps).length:Nat):Int) iiz iiz (by simp only [List.length_map];omega)) hwb) (qO rfl (zC3.c (zHf (x:= .tmp 26) (y:= .tmp 31) (z:=6) (Cs:=pvs m ps) (i:=((k+1) % ps.length)) (C:=CU.agg (fPV m (at_ ps ((k+1) % ps.length)))) (by kernel_rfl) (jD hk1) hl iiz iiz) hwb) (qO rfl (zC3.c (zJp (x:= .tmp 32) (fPV m (at_ ps ((k+1) % ps.length))) 6 (by kernel_rfl) iiz zBT) hwb) zA7)))))))) fun a w4 hbw s hr=> ?_
 replace hwb:=hwb.trans (hbw.mono hwb.size)
 refine zBi (i:=12) (c:=4) (CU.agg (fPV m (at_ ps k))) ((fPV m (at_ ps k)).toSF) s rfl (by kernel_rfl) (by kernel_rfl) rfl rfl rfl (zP _ _) iiz yR (fun vs _=>zJj hwb (s.own (c:=4) rfl rfl) _) fun w5 hg _ s=> ?_
 replace hwb:=hg _ (Below.refl _ _)
 refine zBi (i:=13) (c:=5) (CU.agg (fPV m (at_ ps ((k+1) % ps.length)))) ((fPV m (at_ ps ((k+1) % ps.length))).toSF) s rfl (by kernel_rfl) (by kernel_rfl) rfl rfl rfl (zP _ _) iiz yR (fun vs _=>zJj hwb (s.own (c:=5) rfl rfl) _) fun w6 hg _ s=> ?_
 replace hwb:=hg _ (Below.refl _ _)
 refine zA4 [] [14] ((6, .u (UF.eq (.bool true))):: []) (zE9 hwb) s (by kernel_rfl) (zEu zG<|zE) zA7 fun a w7 hbw s hr=> ?_
 refine zCE (by kernel_rfl) ?_
 refine wpIn_ret ?_
 exact StS.resCCT s (CU.agg (fPV m (at_ ps k))) (CU.agg (fPV m (at_ ps ((k+1) % ps.length)))) rfl (by kernel_rfl) (by kernel_rfl) rfl rfl (zP _ _) rfl rfl (zP _ _) (fun cs cs' v W h1 h2 h3=>⟨_,_,_,rfl,h1,h2,h3⟩)
theorem zJU {W:World} {l u v:Value} {ps:List V2} {k i:Nat} (hl:(SF.row 6 (pvs 80 ps)).p l W) (hu:u= .int .i64 ((k:Nat):Int)) (hv:v= .int .i64 ((i:Nat):Int)) (hki:k<i) (hi:i<ps.length) (hn:ps.length≤1000000) (h3:3≤ps.length) (hpair: ∀i j,i<ps.length→j<ps.length→i≠j→zC2 (at_ ps i) (at_ ps j)):Calls Tryz.prog 84 #[l,u,v] W (Ret W (fB (zAO ps k i)).toSF):=by
 have hk:k<ps.length:=by omega
 have nx: ∀j,j<ps.length→(j+1) % ps.length<ps.length∧j≠(j+1) % ps.length:=fun j hj=>by
  rcases Nat.lt_or_eq_of_le (Nat.succ_le_of_lt hj) with h|h
  ·rw [Nat.mod_eq_of_lt h];omega
  ·rw [show j+1=ps.length from h,Nat.mod_self];omega
 have pkk:zC2 (at_ ps k) (at_ ps ((k+1) % ps.length)):=hpair _ _ hk (nx k hk).1 (nx k hk).2
 have pii:zC2 (at_ ps i) (at_ ps ((i+1) % ps.length)):=hpair _ _ hi (nx i hi).1 (nx i hi).2
 have pki:zC2 (at_ ps k) (at_ ps i):=hpair _ _ hk hi (by omega)
 refine z7 [(UF.eq l).toSF,(UF.eq (.int .i64 ((k:Nat):Int))).toSF,(UF.eq (.int .i64 ((i:Nat):Int))).toSF] Tryz.func84 rfl (by kernel_rfl) ⟨rfl,hu,hv,trivial⟩ fun a s=> ?_
 replace s:=s.renew [(0, .u (UF.eq l)),(1, .u (UF.eq (.int .i64 ((k:Nat):Int)))),(2, .u (UF.eq (.int .i64 ((i:Nat):Int))))] (fmz ⟨.inr ⟨_,rfl, .head _⟩,fmz ⟨.inr ⟨_,rfl,mz1⟩,fmz ⟨.inr ⟨_,rfl,mz2⟩,fnz⟩⟩⟩)
 refine wpIn_seq ?_
 refine zB 1 ((6, .u (UF.eq (.bool false))):: []) hmix s (by kernel_rfl)
  (oc zG<|zE) fun a w1 s=> ?_
 refine zA rfl ?_
 refine wpIn_seq ?_
 refine zB 7 ((15, .s ((UF.eq l).toSF))::(16, .s ((UF.eq (.int .i64 ((k:Nat):Int))).toSF))::(17, .s ((zB7 (fPV 80 (at_ ps k)) (fPV 80 (at_ ps ((k+1) % ps.length))) (UF.eq (.bool true))).toSF))::(14, .s ((zB7 (fPV 80 (at_ ps k)) (fPV 80 (at_ ps ((k+1) % ps.length))) (UF.eq (.bool true))).toSF))::(18, .u (fPV 80 (at_ ps k)))::(19, .u (fPV 80 (at_ ps ((k+1) % ps.length))))::(20, .u (UF.eq (.bool true))):: []) hmix s (by kernel_rfl)
  (oc zC<|oc zC<|oc (zH zD zQL (fun u0 u1 W hb (h0:u0=l) (h1:u1= .int .i64 ((k:Nat):Int))=>zET (m:=80) (ps:=ps) (k:=k) (yW hl h0 (s.up hb)) h1 hk hn (by omega)))<|oc zC<|oc (zB1 (A:=(fPV 80 (at_ ps k)).toSF) (B:=(fPV 80 (at_ ps ((k+1) % ps.length))).toSF) (C:=(UF.eq (.bool true)).toSF) iiz)<|oc (zB0 (A:=(fPV 80 (at_ ps k)).toSF) (B:=(fPV 80 (at_ ps ((k+1) % ps.length))).toSF) (C:=(UF.eq (.bool true)).toSF) iiz)<|oc (zBZ (A:=(fPV 80 (at_ ps k)).toSF) (B:=(fPV 80 (at_ ps ((k+1) % ps.length))).toSF) (C:=(UF.eq (.bool true)).toSF) iiz)<|zE) fun a w2 s=> ?_
 refine zY (CU.len 6) (cs:=zP6) (by kernel_rfl) rfl s (by kernel_rfl) (fun W=>rfl) rfl fun b7 a w s=> ?_
 refine zY (CU.len 6) (cs:=zP6) (by kernel_rfl) rfl s (by kernel_rfl) (fun W=>rfl) rfl fun b8 a w s=> ?_
 refine zV (CU.agg (fPV 80 (at_ ps k))) ((fPV 80 (at_ ps k)).toSF) rfl s (by kernel_rfl) rfl rfl rfl iiz iiz yR fun a w s=> ?_
 refine zV (CU.agg (fPV 80 (at_ ps ((k+1) % ps.length)))) ((fPV 80 (at_ ps ((k+1) % ps.length))).toSF) rfl s (by kernel_rfl) rfl rfl rfl iiz iiz yR fun a w s=> ?_
 refine yU (UF.eq (.bool true)) rfl s (by kernel_rfl) iiz fun a w s=> ?_
 refine zA rfl ?_
 refine wpIn_seq ?_
 refine zB 7 ((22, .s ((UF.eq l).toSF))::(23, .s ((UF.eq (.int .i64 ((i:Nat):Int))).toSF))::(24, .s ((zB7 (fPV 80 (at_ ps i)) (fPV 80 (at_ ps ((i+1) % ps.length))) (UF.eq (.bool true))).toSF))::(21, .s ((zB7 (fPV 80 (at_ ps i)) (fPV 80 (at_ ps ((i+1) % ps.length))) (UF.eq (.bool true))).toSF))::(25, .u (fPV 80 (at_ ps i)))::(26, .u (fPV 80 (at_ ps ((i+1) % ps.length))))::(27, .u (UF.eq (.bool true))):: []) hmix s (by kernel_rfl)
  (oc zC<|oc zC<|oc (zH zD zQL (fun u0 u1 W hb (h0:u0=l) (h1:u1= .int .i64 ((i:Nat):Int))=>zET (m:=80) (ps:=ps) (k:=i) (yW hl h0 (s.up hb)) h1 hi hn (by omega)))<|oc zC<|oc (zB1 (A:=(fPV 80 (at_ ps i)).toSF) (B:=(fPV 80 (at_ ps ((i+1) % ps.length))).toSF) (C:=(UF.eq (.bool true)).toSF) iiz)<|oc (zB0 (A:=(fPV 80 (at_ ps i)).toSF) (B:=(fPV 80 (at_ ps ((i+1) % ps.length))).toSF) (C:=(UF.eq (.bool true)).toSF) iiz)<|oc (zBZ (A:=(fPV 80 (at_ ps i)).toSF) (B:=(fPV 80 (at_ ps ((i+1) % ps.length))).toSF) (C:=(UF.eq (.bool true)).toSF) iiz)<|zE) fun a w3 s=> ?_
 refine zY (CU.len 6) (cs:=zP6) (by kernel_rfl) rfl s (by kernel_rfl) (fun W=>rfl) rfl fun b10 a w s=> ?_
 refine zY (CU.len 6) (cs:=zP6) (by kernel_rfl) rfl s (by kernel_rfl) (fun W=>rfl) rfl fun b11 a w s=> ?_
 refine zV (CU.agg (fPV 80 (at_ ps i))) ((fPV 80 (at_ ps i)).toSF) rfl s (by kernel_rfl) rfl rfl rfl iiz iiz yR fun a w s=> ?_
 refine zV (CU.agg (fPV 80 (at_ ps ((i+1) % ps.length)))) ((fPV 80 (at_ ps ((i+1) % ps.length))).toSF) rfl s (by kernel_rfl) rfl rfl rfl iiz iiz yR fun a w s=> ?_
 refine yU (UF.eq (.bool true)) rfl s (by kernel_rfl) iiz fun a w s=> ?_
 refine zA rfl ?_
 refine wpIn_seq ?_
 refine zB 5 ((28, .s ((fPV 80 (at_ ps k)).toSF))::(29, .s ((fPV 80 (at_ ps ((k+1) % ps.length))).toSF))::(30, .s ((fPV 80 (at_ ps i)).toSF))::(31, .s ((fPV 80 (at_ ps ((i+1) % ps.length))).toSF))::(32, .u (fMT (zBv (at_ ps k) (at_ ps ((k+1) % ps.length)) (at_ ps i) (at_ ps ((i+1) % ps.length))))):: []) hmix s (by kernel_rfl)
  (oc (zK (f:=fPV 80 (at_ ps k)) 6 (by kernel_rfl) (hz:=zP _ _))<|oc (zK (f:=fPV 80 (at_ ps ((k+1) % ps.length))) 6 (by kernel_rfl) (hz:=zP _ _))<|oc (zK (f:=fPV 80 (at_ ps i)) 6 (by kernel_rfl) (hz:=zP _ _))<|oc (zK (f:=fPV 80 (at_ ps ((i+1) % ps.length))) 6 (by kernel_rfl) (hz:=zP _ _))<|oc (zF5 zD zSv (fun u0 u1 u2 u3 W hb (h0:(fPV 80 (at_ ps k)).p u0 W) (h1:(fPV 80 (at_ ps ((k+1) % ps.length))).p u1 W) (h2:(fPV 80 (at_ ps i)).p u2 W) (h3:(fPV 80 (at_ ps ((i+1) % ps.length))).p u3 W)=>zLe h0 h1 h2 h3 pkk pii pki))<|zE) fun a w4 s=> ?_
 refine zY (CU.len 13) (cs:= [.int .i8 0, .bool false, .slice none 0 0, .slice none 0 0, .bool false, .slice none 0 0, .slice none 0 0, .bool false, .slice none 0 0, .slice none 0 0, .bool false, .slice none 0 0, .slice none 0 0]) (by kernel_rfl) rfl s (by kernel_rfl) (fun W=>rfl) rfl fun b13 a w s=> ?_
 refine zV (CU.agg (fMT (zBv (at_ ps k) (at_ ps ((k+1) % ps.length)) (at_ ps i) (at_ ps ((i+1) % ps.length))))) ((fMT (zBv (at_ ps k) (at_ ps ((k+1) % ps.length)) (at_ ps i) (at_ ps ((i+1) % ps.length)))).toSF) rfl s (by kernel_rfl) rfl rfl rfl iiz iiz (zDn _) fun a w s=> ?_
 refine zA rfl ?_
 refine wpIn_seq ?_
 refine wpIn_seq ?_
 rcases (show i=k+1∨(i≠k+1∧k=0∧i=ps.length - 1)∨(i≠k+1∧k=0∧i≠ps.length - 1)∨(i≠k+1∧k≠0) by omega) with c1|⟨c1,c2,c3⟩|⟨c1,c2,c3⟩|⟨c1,c2⟩
 ·refine zB 0 [] hmix s (by kernel_rfl)
   zE fun a w5 s=> ?_
  refine zBH (UF.eq (.int .i64 ((i:Nat):Int))) rfl s (by kernel_rfl) zC (by kernel_rfl) fun a w s=> ?_
  refine zBH (UF.eq (.int .i64 ((k:Nat):Int))) rfl s (by kernel_rfl) zC (by kernel_rfl) fun a w s=> ?_
  refine zBH (UF.eq (.int .i64 ((k+1:Nat):Int))) rfl s (by kernel_rfl) (y7 .i64 ((k:Nat):Int) 1 ((k+1:Nat):Int) iiz iiz (wrap64 _ _ (by omega) (by omega))) (by kernel_rfl) fun a w s=> ?_
  refine zBH (UF.eq (.bool true)) rfl s (by kernel_rfl) (zQ .i64 ((i:Nat):Int) ((k+1:Nat):Int) true iiz iiz (beq_iff_eq.2 (by omega)) rfl) (by kernel_rfl) fun a w s=> ?_
  refine zBH (UF.eq (.bool true)) rfl s (by kernel_rfl) zC (by kernel_rfl) fun a w s=> ?_
  refine zBx (.bool true) rfl rfl s iiz (by kernel_rfl) (by kernel_rfl) (fun a w s=> ?_)
  refine zBx (.bool true) rfl rfl s iiz (by kernel_rfl) (by kernel_rfl) (fun a w s=> ?_)
  refine zBx (.bool true) rfl rfl s iiz (by kernel_rfl) (by kernel_rfl) (fun a w s=> ?_)
  refine zBx undef rfl rfl s iiz (by kernel_rfl) (by kernel_rfl) (fun a w s=> ?_)
  refine zBx undef rfl rfl s iiz (by kernel_rfl) (by kernel_rfl) (fun a w s=> ?_)
  refine zBx undef rfl rfl s iiz (by kernel_rfl) (by kernel_rfl) (fun a w s=> ?_)
  refine zBx undef rfl rfl s iiz (by kernel_rfl) (by kernel_rfl) (fun a w s=> ?_)
  refine zBx undef rfl rfl s iiz (by kernel_rfl) (by kernel_rfl) (fun a w s=> ?_)
  refine zBx (.bool true) rfl rfl s iiz (by kernel_rfl) (by kernel_rfl) (fun a w s=> ?_)
  refine zBH (UF.eq (.bool true)) rfl s (by kernel_rfl) (yF true iiz (fun _ _ _ h=>h) (fun e=>by cases e)) (by kernel_rfl) fun a w s=> ?_
  refine zA rfl ?_
  refine StS.cond s true iiz (fun e=> ?_) (fun e=>by cases e)
  refine wpIn_seq ?_
  replace s:=s.drop [6]
  refine zB 4 ((48, .s (SF.ptr ((CU.agg (fMT (zBv (at_ ps k) (at_ ps ((k+1) % ps.length)) (at_ ps i) (at_ ps ((i+1) % ps.length))))).cf.at 0)))::(49, .s ((UF.eq (.int .i8 (zBv (at_ ps k) (at_ ps ((k+1) % ps.length)) (at_ ps i) (at_ ps ((i+1) % ps.length))))).toSF))::(50, .s ((UF.eq (.bool ((zBv (at_ ps k) (at_ ps ((k+1) % ps.length)) (at_ ps i) (at_ ps ((i+1) % ps.length)))==1))).toSF))::(6, .u (UF.eq (.bool ((zBv (at_ ps k) (at_ ps ((k+1) % ps.length)) (at_ ps i) (at_ ps ((i+1) % ps.length)))==1)))):: []) hmix s (by kernel_rfl)
   (oc (zN (C:=(CU.agg (fMT (zBv (at_ ps k) (at_ ps ((k+1) % ps.length)) (at_ ps i) (at_ ps ((i+1) % ps.length))))).cf) 0 (by kernel_rfl))<|oc (jE (C:=(CU.agg (fMT (zBv (at_ ps k) (at_ ps ((k+1) % ps.length)) (at_ ps i) (at_ ps ((i+1) % ps.length))))).cf) (k:=0) (by kernel_rfl) (h:=zGa _))<|oc (zQ .i8 (zBv (at_ ps k) (at_ ps ((k+1) % ps.length)) (at_ ps i) (at_ ps ((i+1) % ps.length))) 1 ((zBv (at_ ps k) (at_ ps ((k+1) % ps.length)) (at_ ps i) (at_ ps ((i+1) % ps.length)))==1) iiz iiz rfl rfl)<|oc zG<|zE) fun a w6 s=> ?_
  refine zA rfl ?_
  refine wpIn_ret ?_
  exact StS.res1 s (t:=6) rfl (fun v W h=>by rw [show zAO ps k i=_ from if_pos (.inl c1)];exact h)
 ·refine zB 0 [] hmix s (by kernel_rfl)
   zE fun a w7 s=> ?_
  refine zBH (UF.eq (.int .i64 ((i:Nat):Int))) rfl s (by kernel_rfl) zC (by kernel_rfl) fun a w s=> ?_
  refine zBH (UF.eq (.int .i64 ((k:Nat):Int))) rfl s (by kernel_rfl) zC (by kernel_rfl) fun a w s=> ?_
  refine zBH (UF.eq (.int .i64 ((k+1:Nat):Int))) rfl s (by kernel_rfl) (y7 .i64 ((k:Nat):Int) 1 ((k+1:Nat):Int) iiz iiz (wrap64 _ _ (by omega) (by omega))) (by kernel_rfl) fun a w s=> ?_
  refine zBH (UF.eq (.bool false)) rfl s (by kernel_rfl) (zQ .i64 ((i:Nat):Int) ((k+1:Nat):Int) false iiz iiz (beq_eq_false_iff_ne.2 (by omega)) rfl) (by kernel_rfl) fun a w s=> ?_
  refine zBH (UF.eq (.bool false)) rfl s (by kernel_rfl) zC (by kernel_rfl) fun a w s=> ?_
  refine zBo (UF.eq (.int .i64 ((k:Nat):Int))) rfl rfl s iiz (by kernel_rfl) zC (by kernel_rfl) fun a w s=> ?_
  refine zBo (UF.eq (.bool true)) rfl rfl s iiz (by kernel_rfl) (zQ .i64 ((k:Nat):Int) 0 true iiz iiz (beq_iff_eq.2 (by omega)) rfl) (by kernel_rfl) fun a w s=> ?_
  refine zBo (UF.eq (.bool true)) rfl rfl s iiz (by kernel_rfl) zC (by kernel_rfl) fun a w s=> ?_
  refine zBo (UF.eq (.int .i64 ((i:Nat):Int))) rfl rfl s iiz (by kernel_rfl) zC (by kernel_rfl) fun a w s=> ?_
  refine zBo (UF.eq l) rfl rfl s iiz (by kernel_rfl) zC (by kernel_rfl) fun a w s=> ?_
  refine zBo (UF.eq (.int .i64 (((pvs 80 ps).length:Nat):Int))) rfl rfl s iiz (by kernel_rfl) (y6 (z:=6) (Cs:=pvs 80 ps) (by kernel_rfl) (fun v W hb h=>(yW hl h (s.up hb))) (fun _=>rfl)) (by kernel_rfl) fun a w s=> ?_
  refine zBo (UF.eq (.int .i64 ((ps.length - 1:Nat):Int))) rfl rfl s iiz (by kernel_rfl) (zEZ .i64 (((pvs 80 ps).length:Nat):Int) 1 ((ps.length - 1:Nat):Int) iiz iiz (by simp only [List.length_map];rw [IntKind.wrap_i64];omega)) (by kernel_rfl) fun a w s=> ?_
  refine zBo (UF.eq (.bool true)) rfl rfl s iiz (by kernel_rfl) (zQ .i64 ((i:Nat):Int) ((ps.length - 1:Nat):Int) true iiz iiz (beq_iff_eq.2 (by omega)) rfl) (by kernel_rfl) fun a w s=> ?_
  refine zBo (UF.eq (.bool true)) rfl rfl s iiz (by kernel_rfl) (yF true iiz (fun _ _ _ h=>h) (fun e=>by cases e)) (by kernel_rfl) fun a w s=> ?_
  refine zBH (UF.eq (.bool true)) rfl s (by kernel_rfl) (yF false iiz (fun e=>by cases e) (fun _ _ _ h=>h)) (by kernel_rfl) fun a w s=> ?_
  refine zA rfl ?_
  refine StS.cond s true iiz (fun e=> ?_) (fun e=>by cases e)
  refine wpIn_seq ?_
  replace s:=s.drop [6]
  refine zB 4 ((48, .s (SF.ptr ((CU.agg (fMT (zBv (at_ ps k) (at_ ps ((k+1) % ps.length)) (at_ ps i) (at_ ps ((i+1) % ps.length))))).cf.at 0)))::(49, .s ((UF.eq (.int .i8 (zBv (at_ ps k) (at_ ps ((k+1) % ps.length)) (at_ ps i) (at_ ps ((i+1) % ps.length))))).toSF))::(50, .s ((UF.eq (.bool ((zBv (at_ ps k) (at_ ps ((k+1) % ps.length)) (at_ ps i) (at_ ps ((i+1) % ps.length)))==1))).toSF))::(6, .u (UF.eq (.bool ((zBv (at_ ps k) (at_ ps ((k+1) % ps.length)) (at_ ps i) (at_ ps ((i+1) % ps.length)))==1)))):: []) hmix s (by kernel_rfl)
   (oc (zN (C:=(CU.agg (fMT (zBv (at_ ps k) (at_ ps ((k+1) % ps.length)) (at_ ps i) (at_ ps ((i+1) % ps.length))))).cf) 0 (by kernel_rfl))<|oc (jE (C:=(CU.agg (fMT (zBv (at_ ps k) (at_ ps ((k+1) % ps.length)) (at_ ps i) (at_ ps ((i+1) % ps.length))))).cf) (k:=0) (by kernel_rfl) (h:=zGa _))<|oc (zQ .i8 (zBv (at_ ps k) (at_ ps ((k+1) % ps.length)) (at_ ps i) (at_ ps ((i+1) % ps.length))) 1 ((zBv (at_ ps k) (at_ ps ((k+1) % ps.length)) (at_ ps i) (at_ ps ((i+1) % ps.length)))==1) iiz iiz rfl rfl)<|oc zG<|zE) fun a w8 s=> ?_
  refine zA rfl ?_
  refine wpIn_ret ?_
  exact StS.res1 s (t:=6) rfl (fun v W h=>by rw [show zAO ps k i=_ from if_pos (.inr ⟨c2,c3⟩)];exact h)
 ·refine zB 0 [] hmix s (by kernel_rfl)
   zE fun a w9 s=> ?_
  refine zBH (UF.eq (.int .i64 ((i:Nat):Int))) rfl s (by kernel_rfl) zC (by kernel_rfl) fun a w s=> ?_
  refine zBH (UF.eq (.int .i64 ((k:Nat):Int))) rfl s (by kernel_rfl) zC (by kernel_rfl) fun a w s=> ?_
  refine zBH (UF.eq (.int .i64 ((k+1:Nat):Int))) rfl s (by kernel_rfl) (y7 .i64 ((k:Nat):Int) 1 ((k+1:Nat):Int) iiz iiz (wrap64 _ _ (by omega) (by omega))) (by kernel_rfl) fun a w s=> ?_
  refine zBH (UF.eq (.bool false)) rfl s (by kernel_rfl) (zQ .i64 ((i:Nat):Int) ((k+1:Nat):Int) false iiz iiz (beq_eq_false_iff_ne.2 (by omega)) rfl) (by kernel_rfl) fun a w s=> ?_
  refine zBH (UF.eq (.bool false)) rfl s (by kernel_rfl) zC (by kernel_rfl) fun a w s=> ?_
  refine zBo (UF.eq (.int .i64 ((k:Nat):Int))) rfl rfl s iiz (by kernel_rfl) zC (by kernel_rfl) fun a w s=> ?_
  refine zBo (UF.eq (.bool true)) rfl rfl s iiz (by kernel_rfl) (zQ .i64 ((k:Nat):Int) 0 true iiz iiz (beq_iff_eq.2 (by omega)) rfl) (by kernel_rfl) fun a w s=> ?_
  refine zBo (UF.eq (.bool true)) rfl rfl s iiz (by kernel_rfl) zC (by kernel_rfl) fun a w s=> ?_
  refine zBo (UF.eq (.int .i64 ((i:Nat):Int))) rfl rfl s iiz (by kernel_rfl) zC (by kernel_rfl) fun a w s=> ?_
  refine zBo (UF.eq l) rfl rfl s iiz (by kernel_rfl) zC (by kernel_rfl) fun a w s=> ?_
  refine zBo (UF.eq (.int .i64 (((pvs 80 ps).length:Nat):Int))) rfl rfl s iiz (by kernel_rfl) (y6 (z:=6) (Cs:=pvs 80 ps) (by kernel_rfl) (fun v W hb h=>(yW hl h (s.up hb))) (fun _=>rfl)) (by kernel_rfl) fun a w s=> ?_
  refine zBo (UF.eq (.int .i64 ((ps.length - 1:Nat):Int))) rfl rfl s iiz (by kernel_rfl) (zEZ .i64 (((pvs 80 ps).length:Nat):Int) 1 ((ps.length - 1:Nat):Int) iiz iiz (by simp only [List.length_map];rw [IntKind.wrap_i64];omega)) (by kernel_rfl) fun a w s=> ?_
  refine zBo (UF.eq (.bool false)) rfl rfl s iiz (by kernel_rfl) (zQ .i64 ((i:Nat):Int) ((ps.length - 1:Nat):Int) false iiz iiz (beq_eq_false_iff_ne.2 (by omega)) rfl) (by kernel_rfl) fun a w s=> ?_
  refine zBo (UF.eq (.bool false)) rfl rfl s iiz (by kernel_rfl) (yF true iiz (fun _ _ _ h=>h) (fun e=>by cases e)) (by kernel_rfl) fun a w s=> ?_
  refine zBH (UF.eq (.bool false)) rfl s (by kernel_rfl) (yF false iiz (fun e=>by cases e) (fun _ _ _ h=>h)) (by kernel_rfl) fun a w s=> ?_
  refine zA rfl ?_
  refine StS.cond s false iiz (fun e=>by cases e) (fun e=> ?_)
  refine wpIn_skip ?_
  refine wpIn_seq ?_
  replace s:=s.drop [6]
  refine zB 4 ((51, .s (SF.ptr ((CU.agg (fMT (zBv (at_ ps k) (at_ ps ((k+1) % ps.length)) (at_ ps i) (at_ ps ((i+1) % ps.length))))).cf.at 0)))::(52, .s ((UF.eq (.int .i8 (zBv (at_ ps k) (at_ ps ((k+1) % ps.length)) (at_ ps i) (at_ ps ((i+1) % ps.length))))).toSF))::(53, .s ((UF.eq (.bool ((zBv (at_ ps k) (at_ ps ((k+1) % ps.length)) (at_ ps i) (at_ ps ((i+1) % ps.length)))==0))).toSF))::(6, .u (UF.eq (.bool ((zBv (at_ ps k) (at_ ps ((k+1) % ps.length)) (at_ ps i) (at_ ps ((i+1) % ps.length)))==0)))):: []) hmix s (by kernel_rfl)
   (oc (zN (C:=(CU.agg (fMT (zBv (at_ ps k) (at_ ps ((k+1) % ps.length)) (at_ ps i) (at_ ps ((i+1) % ps.length))))).cf) 0 (by kernel_rfl))<|oc (jE (C:=(CU.agg (fMT (zBv (at_ ps k) (at_ ps ((k+1) % ps.length)) (at_ ps i) (at_ ps ((i+1) % ps.length))))).cf) (k:=0) (by kernel_rfl) (h:=zGa _))<|oc (zQ .i8 (zBv (at_ ps k) (at_ ps ((k+1) % ps.length)) (at_ ps i) (at_ ps ((i+1) % ps.length))) 0 ((zBv (at_ ps k) (at_ ps ((k+1) % ps.length)) (at_ ps i) (at_ ps ((i+1) % ps.length)))==0) iiz iiz rfl rfl)<|oc zG<|zE) fun a w10 s=> ?_
  refine zA rfl ?_
  refine wpIn_ret ?_
  exact StS.res1 s (t:=6) rfl (fun v W h=>by rw [show zAO ps k i=_ from if_neg (by omega)];exact h)
 ·refine zB 0 [] hmix s (by kernel_rfl)
   zE fun a w11 s=> ?_
  refine zBH (UF.eq (.int .i64 ((i:Nat):Int))) rfl s (by kernel_rfl) zC (by kernel_rfl) fun a w s=> ?_
  refine zBH (UF.eq (.int .i64 ((k:Nat):Int))) rfl s (by kernel_rfl) zC (by kernel_rfl) fun a w s=> ?_
  refine zBH (UF.eq (.int .i64 ((k+1:Nat):Int))) rfl s (by kernel_rfl) (y7 .i64 ((k:Nat):Int) 1 ((k+1:Nat):Int) iiz iiz (wrap64 _ _ (by omega) (by omega))) (by kernel_rfl) fun a w s=> ?_
  refine zBH (UF.eq (.bool false)) rfl s (by kernel_rfl) (zQ .i64 ((i:Nat):Int) ((k+1:Nat):Int) false iiz iiz (beq_eq_false_iff_ne.2 (by omega)) rfl) (by kernel_rfl) fun a w s=> ?_
  refine zBH (UF.eq (.bool false)) rfl s (by kernel_rfl) zC (by kernel_rfl) fun a w s=> ?_
  refine zBo (UF.eq (.int .i64 ((k:Nat):Int))) rfl rfl s iiz (by kernel_rfl) zC (by kernel_rfl) fun a w s=> ?_
  refine zBo (UF.eq (.bool false)) rfl rfl s iiz (by kernel_rfl) (zQ .i64 ((k:Nat):Int) 0 false iiz iiz (beq_eq_false_iff_ne.2 (by omega)) rfl) (by kernel_rfl) fun a w s=> ?_
  refine zBo (UF.eq (.bool false)) rfl rfl s iiz (by kernel_rfl) zC (by kernel_rfl) fun a w s=> ?_
  refine zBx (.bool false) rfl rfl s iiz (by kernel_rfl) (by kernel_rfl) (fun a w s=> ?_)
  refine zBx (.bool false) rfl rfl s iiz (by kernel_rfl) (by kernel_rfl) (fun a w s=> ?_)
  refine zBx (.bool false) rfl rfl s iiz (by kernel_rfl) (by kernel_rfl) (fun a w s=> ?_)
  refine zBx (.bool false) rfl rfl s iiz (by kernel_rfl) (by kernel_rfl) (fun a w s=> ?_)
  refine zBx (.bool false) rfl rfl s iiz (by kernel_rfl) (by kernel_rfl) (fun a w s=> ?_)
  refine zBo (UF.eq (.bool false)) rfl rfl s iiz (by kernel_rfl) (yF false iiz (fun e=>by cases e) (fun _ _ _ h=>h)) (by kernel_rfl) fun a w s=> ?_
  refine zBH (UF.eq (.bool false)) rfl s (by kernel_rfl) (yF false iiz (fun e=>by cases e) (fun _ _ _ h=>h)) (by kernel_rfl) fun a w s=> ?_
  refine zA rfl ?_
  refine StS.cond s false iiz (fun e=>by cases e) (fun e=> ?_)
  refine wpIn_skip ?_
  refine wpIn_seq ?_
  replace s:=s.drop [6]
  refine zB 4 ((51, .s (SF.ptr ((CU.agg (fMT (zBv (at_ ps k) (at_ ps ((k+1) % ps.length)) (at_ ps i) (at_ ps ((i+1) % ps.length))))).cf.at 0)))::(52, .s ((UF.eq (.int .i8 (zBv (at_ ps k) (at_ ps ((k+1) % ps.length)) (at_ ps i) (at_ ps ((i+1) % ps.length))))).toSF))::(53, .s ((UF.eq (.bool ((zBv (at_ ps k) (at_ ps ((k+1) % ps.length)) (at_ ps i) (at_ ps ((i+1) % ps.length)))==0))).toSF))::(6, .u (UF.eq (.bool ((zBv (at_ ps k) (at_ ps ((k+1) % ps.length)) (at_ ps i) (at_ ps ((i+1) % ps.length)))==0)))):: []) hmix s (by kernel_rfl)
   (oc (zN (C:=(CU.agg (fMT (zBv (at_ ps k) (at_ ps ((k+1) % ps.length)) (at_ ps i) (at_ ps ((i+1) % ps.length))))).cf) 0 (by kernel_rfl))<|oc (jE (C:=(CU.agg (fMT (zBv (at_ ps k) (at_ ps ((k+1) % ps.length)) (at_ ps i) (at_ ps ((i+1) % ps.length))))).cf) (k:=0) (by kernel_rfl) (h:=zGa _))<|oc (zQ .i8 (zBv (at_ ps k) (at_ ps ((k+1) % ps.length)) (at_ ps i) (at_ ps ((i+1) % ps.length))) 0 ((zBv (at_ ps k) (at_ ps ((k+1) % ps.length)) (at_ ps i) (at_ ps ((i+1) % ps.length)))==0) iiz iiz rfl rfl)<|oc zG<|zE) fun a w12 s=> ?_
  refine zA rfl ?_
  refine wpIn_ret ?_
  exact StS.res1 s (t:=6) rfl (fun v W h=>by rw [show zAO ps k i=_ from if_neg (by omega)];exact h)
theorem zHQ {W:World} {l:Value} {ps:List V2} (hl:(SF.row 6 (pvs 80 ps)).p l W) (hn:ps.length≤1000000) (hpair: ∀i j,i<ps.length→j<ps.length→i≠j→zC2 (at_ ps i) (at_ ps j)):Calls Tryz.prog 38 #[l] W (Ret W (fB (zCK ps)).toSF):=by
 refine z7 [(UF.eq l).toSF] Tryz.func38 rfl (by kernel_rfl) ⟨rfl,trivial⟩ fun a s=> ?_
 replace s:=s.renew [(0, .u (UF.eq l))] (fmz ⟨.inr ⟨_,rfl, .head _⟩,fnz⟩)
 refine wpIn_seq ?_
 refine zB 1 ((2, .u (UF.eq (.bool false))):: []) hmix s (by kernel_rfl)
  (oc zG<|zE) fun a w1 s=> ?_
 refine zA rfl ?_
 refine wpIn_seq ?_
 refine wpIn_seq ?_
 refine zB 3 ((5, .s ((UF.eq l).toSF))::(6, .s ((UF.eq (.int .i64 (((pvs 80 ps).length:Nat):Int))).toSF))::(7, .u (UF.eq (.bool (decide (ps.length<3))))):: []) hmix s (by kernel_rfl)
  (oc zC<|oc (y6 (z:=6) (Cs:=pvs 80 ps) (by kernel_rfl) (fun v W hb h=>(yW hl h (s.up hb))) (fun _=>rfl))<|oc (zQ .i64 (((pvs 80 ps).length:Nat):Int) 3 (decide (ps.length<3)) iiz iiz (by simp only [List.length_map];rw [decide_eq_decide];omega) rfl)<|zE) fun a w2 s=> ?_
 refine zA rfl ?_
 refine StS.cond s (decide (ps.length<3)) iiz (fun e=> ?_) (fun e=> ?_)
 ·refine wpIn_seq ?_
  replace s:=s.drop [2]
  refine zB 1 ((2, .u (UF.eq (.bool false))):: []) hmix s (by kernel_rfl)
   (oc zG<|zE) fun a w3 s=> ?_
  refine zA rfl ?_
  refine wpIn_ret ?_
  exact StS.res1 s (t:=2) rfl (fun v W h=>by rw [zID (of_decide_eq_true e)];exact h)
 ·have h3:3≤ps.length:=by have:=of_decide_eq_false e;omega
  refine wpIn_skip ?_
  refine wpIn_seq ?_
  refine wpIn_seq ?_
  refine zB 1 ((3, .u (UF.eq (.int .i64 0))):: []) hmix s (by kernel_rfl)
   (oc zG<|zE) fun a w4 s=> ?_
  refine zA rfl ?_
  refine wpIn_block ?_
  refine zC6 (fun i=>i≤ps.length∧ ∀i' k,i'<i→k<i'→((zAT (at_ ps i') (at_ ps k)==0)|| !(zAO ps k i'))=false) (fun i=> [(0, .u (UF.eq l)),(3, .u (UF.eq (.int .i64 ((i:Nat):Int))))]) (fun i=>ps.length - i) (0:Nat) (⟨Nat.zero_le _,fun j k hj=>absurd hj (Nat.not_lt_zero _)⟩) (s.keepK _ (fmz ⟨mz3,fmz ⟨.head _,fnz⟩⟩)) fun i a w hx s=> ?_
  have hxi:=hx
  refine wpIn_seq ?_
  refine wpIn_seq ?_
  refine zB 4 ((8, .s ((UF.eq (.int .i64 ((i:Nat):Int))).toSF))::(9, .s ((UF.eq l).toSF))::(10, .s ((UF.eq (.int .i64 (((pvs 80 ps).length:Nat):Int))).toSF))::(11, .u (UF.eq (.bool (decide (((i:Nat):Int)<(((pvs 80 ps).length:Nat):Int)))))):: []) hmix s (by kernel_rfl)
   (oc zC<|oc zC<|oc (y6 (z:=6) (Cs:=pvs 80 ps) (by kernel_rfl) (fun v W hb h=>(yW hl h (s.up hb))) (fun _=>rfl))<|oc (zQ .i64 ((i:Nat):Int) (((pvs 80 ps).length:Nat):Int) (decide (((i:Nat):Int)<(((pvs 80 ps).length:Nat):Int))) iiz iiz rfl rfl)<|zE) fun a w5 s=> ?_
  refine zA rfl ?_
  refine StS.cond s (decide (((i:Nat):Int)<(((pvs 80 ps).length:Nat):Int))) iiz (fun e=> ?_) (fun e=> ?_)
  ·have hi:i<ps.length:=by have:=of_decide_eq_true e;simp at this;omega
   refine wpIn_skip ?_
   refine wpIn_seq ?_
   refine wpIn_block ?_
   refine wpIn_seq ?_
   refine zB 1 ((4, .u (UF.eq (.int .i64 0))):: []) hmix s (by kernel_rfl)
    (oc zG<|zE) fun a w6 s=> ?_
   refine zA rfl ?_
   refine wpIn_block ?_
   refine zC6 (fun k=>k≤i∧ ∀k',k'<k→((zAT (at_ ps i) (at_ ps k')==0)|| !(zAO ps k' i))=false) (fun k=> [(0, .u (UF.eq l)),(3, .u (UF.eq (.int .i64 ((i:Nat):Int)))),(4, .u (UF.eq (.int .i64 ((k:Nat):Int))))]) (fun k=>i - k) (0:Nat) (⟨Nat.zero_le _,fun j hj=>absurd hj (Nat.not_lt_zero _)⟩) (s.keepK _ (fmz ⟨mz2,fmz ⟨mz3,fmz ⟨.head _,fnz⟩⟩⟩)) fun k a w hx s=> ?_
   refine wpIn_seq ?_
   refine wpIn_seq ?_
   refine zB 3 ((14, .s ((UF.eq (.int .i64 ((k:Nat):Int))).toSF))::(15, .s ((UF.eq (.int .i64 ((i:Nat):Int))).toSF))::(16, .u (UF.eq (.bool (decide (((k:Nat):Int)<((i:Nat):Int)))))):: []) hmix s (by kernel_rfl)
    (oc zC<|oc zC<|oc (zQ .i64 ((k:Nat):Int) ((i:Nat):Int) (decide (((k:Nat):Int)<((i:Nat):Int))) iiz iiz rfl rfl)<|zE) fun a w7 s=> ?_
   refine zA rfl ?_
   refine StS.cond s (decide (((k:Nat):Int)<((i:Nat):Int))) iiz (fun e=> ?_) (fun e=> ?_)
   ·have hk:k<i:=by have:=of_decide_eq_true e;omega
    have hkl:k<ps.length:=by omega
    refine wpIn_skip ?_
    refine wpIn_seq ?_
    refine wpIn_block ?_
    refine wpIn_seq ?_
    refine zB 16 ((19, .s ((UF.eq l).toSF))::(20, .s ((UF.eq (.int .i64 ((i:Nat):Int))).toSF))::(21, .s (SF.ptr (CU.agg (fPV 80 (at_ ps i))).cf))::(22, .s ((fPV 80 (at_ ps i)).toSF))::(23, .s ((UF.eq l).toSF))::(24, .s ((UF.eq (.int .i64 ((k:Nat):Int))).toSF))::(25, .s (SF.ptr (CU.agg (fPV 80 (at_ ps k))).cf))::(26, .s ((fPV 80 (at_ ps k)).toSF))::(27, .s ((UF.eq (.bool (zAT (at_ ps i) (at_ ps k)==0))).toSF))::(28, .s ((UF.eq (.bool (zAT (at_ ps i) (at_ ps k)==0))).toSF))::(29, .s (SF.imp ((zAT (at_ ps i) (at_ ps k)==0)=false) ((UF.eq l).toSF)))::(30, .s (SF.imp ((zAT (at_ ps i) (at_ ps k)==0)=false) ((UF.eq (.int .i64 ((k:Nat):Int))).toSF)))::(31, .s (SF.imp ((zAT (at_ ps i) (at_ ps k)==0)=false) ((UF.eq (.int .i64 ((i:Nat):Int))).toSF)))::(32, .s (SF.imp ((zAT (at_ ps i) (at_ ps k)==0)=false) ((UF.eq (.bool (zAO ps k i))).toSF)))::(33, .s (SF.imp ((zAT (at_ ps i) (at_ ps k)==0)=false) ((UF.eq (.bool (!(zAO ps k i)))).toSF)))::(34, .u (UF.eq (.bool ((zAT (at_ ps i) (at_ ps k)==0)||(!(zAO ps k i)))))):: []) hmix s (by kernel_rfl)
     (oc zC<|oc zC<|oc (jB (z:=6) (Cs:=pvs 80 ps) (i:=i) (C:=CU.agg (fPV 80 (at_ ps i))) (by kernel_rfl) (jD hi) (fun v W hb h=>(yW hl h (s.up hb))) iiz)<|oc (zK (f:=fPV 80 (at_ ps i)) 6 (by kernel_rfl) (hz:=zP _ _))<|oc zC<|oc zC<|oc (jB (z:=6) (Cs:=pvs 80 ps) (i:=k) (C:=CU.agg (fPV 80 (at_ ps k))) (by kernel_rfl) (jD hkl) (fun v W hb h=>(yW hl h (s.up hb))) iiz)<|oc (zK (f:=fPV 80 (at_ ps k)) 6 (by kernel_rfl) (hz:=zP _ _))<|oc (zH zD zR2 (fun u0 u1 W hb (h0:(fPV 80 (at_ ps i)).p u0 W) (h1:(fPV 80 (at_ ps k)).p u1 W)=>zIN (m:=80) h0 h1 (by decide) (by decide)))<|oc zC<|oc (zF 28 (zAT (at_ ps i) (at_ ps k)==0) (by kernel_rfl) iiz (fun e=>zR [] ((UF.eq l).toSF) fnz (fun _ _ h _=>h) (by kernel_rfl) zC) (fun e W h=>absurd h e))<|oc (zF 28 (zAT (at_ ps i) (at_ ps k)==0) (by kernel_rfl) iiz (fun e=>zR [] ((UF.eq (.int .i64 ((k:Nat):Int))).toSF) fnz (fun _ _ h _=>h) (by kernel_rfl) zC) (fun e W h=>absurd h e))<|oc (zF 28 (zAT (at_ ps i) (at_ ps k)==0) (by kernel_rfl) iiz (fun e=>zR [] ((UF.eq (.int .i64 ((i:Nat):Int))).toSF) fnz (fun _ _ h _=>h) (by kernel_rfl) zC) (fun e W h=>absurd h e))<|oc (zF 28 (zAT (at_ ps i) (at_ ps k)==0) (by kernel_rfl) iiz (fun e=>zR [(29,(UF.eq l).toSF),(30,(UF.eq (.int .i64 ((k:Nat):Int))).toSF),(31,(UF.eq (.int .i64 ((i:Nat):Int))).toSF)] ((UF.eq (.bool (zAO ps k i))).toSF) (fmz ⟨fun v W h=>zJ (c:=(zAT (at_ ps i) (at_ ps k)==0)=false) (f:=(UF.eq l).toSF) e h,fmz ⟨fun v W h=>zJ (c:=(zAT (at_ ps i) (at_ ps k)==0)=false) (f:=(UF.eq (.int .i64 ((k:Nat):Int))).toSF) e h,fmz ⟨fun v W h=>zJ (c:=(zAT (at_ ps i) (at_ ps k)==0)=false) (f:=(UF.eq (.int .i64 ((i:Nat):Int))).toSF) e h,fnz⟩⟩⟩) (fun _ _ h _=>h) (by kernel_rfl) (jZ zD zTx (fun u0 u1 u2 W hb (h0:u0=l) (h1:u1= .int .i64 ((k:Nat):Int)) (h2:u2= .int .i64 ((i:Nat):Int))=>zJU (ps:=ps) (k:=k) (i:=i) (yW hl h0 (s.up hb)) h1 h2 hk hi hn h3 hpair))) (fun e W h=>absurd h e))<|oc (zF 28 (zAT (at_ ps i) (at_ ps k)==0) (by kernel_rfl) iiz (fun e=>zR [(32,(UF.eq (.bool (zAO ps k i))).toSF)] ((UF.eq (.bool (!(zAO ps k i)))).toSF) (fmz ⟨fun v W h=>zJ (c:=(zAT (at_ ps i) (at_ ps k)==0)=false) (f:=(UF.eq (.bool (zAO ps k i))).toSF) e h,fnz⟩) (fun _ _ h _=>h) (by kernel_rfl) (zD6 (zAO ps k i) iiz (fun _=>rfl))) (fun e W h=>absurd h e))<|oc (yF (zAT (at_ ps i) (at_ ps k)==0) iiz (fun e v W h=>zCk h e) (fun e v W h=>zBA (zJ e h) e))<|zE) fun a w8 s=> ?_
    refine zA rfl ?_
    refine StS.cond s ((zAT (at_ ps i) (at_ ps k)==0)||(!(zAO ps k i))) iiz (fun e=> ?_) (fun e=> ?_)
    ·refine wpIn_seq ?_
     refine zB 1 ((2, .u (UF.eq (.bool false))):: []) hmix s (by kernel_rfl)
      (oc zG<|zE) fun a w9 s=> ?_
     refine zA rfl ?_
     refine wpIn_ret ?_
     exact StS.res1 s (t:=2) rfl (fun v W h=>by rw [zPD hi hk e];exact h)
    ·refine wpIn_skip ?_
     refine qC 2 ((17, .s ((UF.eq (.int .i64 ((k:Nat):Int))).toSF))::(18, .u (UF.eq (.int .i64 ((k+1:Nat):Int)))):: []) s (by kernel_rfl)
      (oc zC<|oc (y7 .i64 ((k:Nat):Int) 1 ((k+1:Nat):Int) iiz iiz (wrap64 _ _ (by omega) (by omega)))<|zE) fun a w10 s=> ?_
     replace s:=s.drop [4]
     refine yU (UF.eq (.int .i64 ((k+1:Nat):Int))) rfl s (by kernel_rfl) iiz fun a w s=> ?_
     refine zA rfl ?_
     exact ⟨k+1,⟨hk,fun j hj=>by rcases Nat.lt_or_eq_of_le (Nat.le_of_lt_succ hj) with h|h;exact hx.2 j h;rw [h];exact e⟩,(by show i - (k+1)<i - k;omega),s.keepK _ (fmz ⟨mz4,fmz ⟨mz5,fmz ⟨.head _,fnz⟩⟩⟩)⟩
   ·have hk:k=i:=by have h7:=of_decide_eq_false e;have h8:=hx.1;omega
    refine wpIn_exit ?_
    refine qC 2 ((12, .s ((UF.eq (.int .i64 ((i:Nat):Int))).toSF))::(13, .u (UF.eq (.int .i64 ((i+1:Nat):Int)))):: []) s (by kernel_rfl)
     (oc zC<|oc (y7 .i64 ((i:Nat):Int) 1 ((i+1:Nat):Int) iiz iiz (wrap64 _ _ (by omega) (by omega)))<|zE) fun a w11 s=> ?_
    replace s:=s.drop [3]
    refine yU (UF.eq (.int .i64 ((i+1:Nat):Int))) rfl s (by kernel_rfl) iiz fun a w s=> ?_
    refine zA rfl ?_
    exact ⟨i+1,⟨hi,fun j k hj hk=>by rcases Nat.lt_or_eq_of_le (Nat.le_of_lt_succ hj) with h|h;exact hxi.2 j k h hk;rw [h];exact hx.2 k (by omega)⟩,(by show ps.length - (i+1)<ps.length - i;omega),s.keepK _ (fmz ⟨mz3,fmz ⟨.head _,fnz⟩⟩)⟩
  ·have hi:i=ps.length:=by have h7:=of_decide_eq_false e;have h8:=hx.1;simp at h7;omega
   refine wpIn_exit ?_
   refine wpIn_seq ?_
   refine zB 1 ((2, .u (UF.eq (.bool true))):: []) hmix s (by kernel_rfl)
    (oc zG<|zE) fun a w12 s=> ?_
   refine zA rfl ?_
   refine wpIn_ret ?_
   exact StS.res1 s (t:=2) rfl (fun v W h=>by rw [zNc h3 (fun j k hj hk'=>hx.2 j k (by omega) hk')];exact h)
end Go.Proofs.Wd

namespace Go.Proofs.Wd
set_option maxRecDepth 100000
set_option maxHeartbeats 1000000
open Go.RowKit Lb
section
variable {S:Nat→Prop} {w0:World} {K:List (Nat×KF)} {B:List Bx} {n:Nat} {a:Act} {w:World} {P:Program} {Q:Exit→Act→World→Prop}
theorem zM1 {ops:Array Oper} {k d l:Nat} {y:Operand} {xs:Array Operand} {ats:Array TypeId} {ty:TypeId} {pos:String} {aft:Array Edge} {gd:Option (Nat×Bool)} {Jn Z:World→Prop} {N:Nat} {C:Nat→Prop} (ho:ops[k]?=some ⟨some d, .call ⟨.value y,xs,ats⟩,ty,pos,aft,gd⟩) (hw:Region.wanted ⟨some d, .call ⟨.value y,xs,ats⟩,ty,pos,aft,gd⟩ (yielded ops a.tmps)=true)
  (h:StS S w0 K B n [] a w) (hy: ∀v W,(Wd.fct (jI K B) y).p v W→v= .func (.yield l) #[] #[]) (hf:zAr K B n d=true) (hu: ∀q,q∈K→ ∃f,q.2= .u f) (hC: ∀x,x∈B→ ¬C x.b)
  (Y:YieldAt Fence.wide 0 P l (xs.map a.eval) w fun e W'=>((e= .returned (.bool true)∧Jn W')∨(e= .returned (.bool false)∧Z W'))∧Rnd N C w W')
  (fin: ∀a' w' bv,Rnd N C w w'→((bv=true∧Jn w')∨(bv=false∧Z w'))→StS (inB B) w' ((d, .u (UF.eq (.bool bv)))::K) B n [] a' w'→zBm Fence.wide 0 P ops Q (k+1) a' w'):zBm Fence.wide 0 P ops Q k a w:=by
 have hyv:a.eval y= .func (.yield l) #[] #[]:=hy _ _ (h.fct y)
 obtain ⟨fn,tmps,assign,body,hrun,hR⟩:=Y
 have hex:(execOp a.eval ⟨some d, .call ⟨.value y,xs,ats⟩,ty,pos,aft,gd⟩).run P w=(execOp a.eval ⟨some d, .call ⟨.value y,xs,ats⟩,ty,pos,aft,none⟩).run P w:=rfl
 refine zIt ho hw ⟨fun g _=>trivial, ?_⟩
 rw [Oper.semAt_eq _ _ _ (fun _ e=>by cases e),hex,zHh hyv,hrun]
 rw [Oper.uponIn_round]
 refine ⟨fun hh=>absurd hh (by simp [Fence.wide]),RoundIn.mono hR fun e W' he=> ?_⟩
 obtain ⟨he,hr⟩:=he
 have s1:=h.yielded hr hu hC
 rcases he with ⟨rfl,hJ⟩|⟨rfl,hZ⟩
 ·exact fin _ _ true hr (.inl ⟨rfl,hJ⟩) (s1.set hf (Below.refl _ _) rfl)
 ·exact fin _ _ false hr (.inr ⟨rfl,hZ⟩) (s1.set hf (Below.refl _ _) rfl)
end
theorem peB (s:Bool) (A A':Option Addr) (n n' c c':Nat) (s2:Bool) (B B':Option Addr) (k k' d d':Nat) (t:Bool) (C C':Option Addr) (i i' j j':Nat) (t2:Bool) (D D':Option Addr) (x x' y y':Nat):Tryz.prog.built 143 [(0, .agg #[.bool s, .slice A n c, .slice A' n' c', .bool s2, .slice B k d, .slice B' k' d']),(1, .agg #[.bool t, .slice C i j, .slice C' i' j', .bool t2, .slice D x y, .slice D' x' y'])]=some #[.bool s, .slice A n c, .slice A' n' c', .bool s2, .slice B k d, .slice B' k' d', .bool t, .slice C i j, .slice C' i' j', .bool t2, .slice D x y, .slice D' x' y']:=by kernel_rfl
theorem zUp {f g f' g':UF} {u v:Value} {W:World} (hu:(fPT f g).p u W) (hv:(fPT f' g').p v W): ∃cells,Tryz.prog.built 143 [(0,u),(1,v)]=some cells∧(fPR (fPT f g) (fPT f' g')).p (.agg cells) W:=by
 obtain ⟨s,A,n,c,A',n',c',s2,B,k,d,B',k',d',rfl,h1,h2⟩:=hu
 obtain ⟨s3,A3,n3,c3,A4,n4,c4,s4,B3,k3,d3,B4,k4,d4,rfl,h3,h4⟩:=hv
 exact ⟨_,peB ..,_,_,rfl,⟨s,A,n,c,A',n',c',s2,B,k,d,B',k',d',rfl,h1,h2⟩,⟨s3,A3,n3,c3,A4,n4,c4,s4,B3,k3,d3,B4,k4,d4,rfl,h3,h4⟩⟩
abbrev eF (m:Nat) (ps:List V2) (k:Nat):List UF:= [UF.eq (.int .i64 ((k:Nat):Int)),fPR (fPV m (at_ ps k)) (fPV m (at_ ps ((k+1) % ps.length)))]
theorem zJh {W:World} {l:Value} (hlc:l.cells=#[l]∧yG l=true):Calls Tryz.prog 120 #[l] W (Ret W (zMj W 153 22 (CU.is [l]))):=by
 refine z7 [(UF.eq l).toSF] Tryz.func120 rfl (by kernel_rfl) ⟨rfl,trivial⟩ fun a s=> ?_
 refine wpIn_seq ?_
 refine zB 0 [] hmix s (by kernel_rfl)
  zE fun a w1 s=> ?_
 refine yJ (CU.is [l]) rfl s (by kernel_rfl) (fun v W h=>zJf h hlc.1 hlc.2) fun b1 a w s=> ?_
 refine yU (UF.eq (.nilFunc)) rfl s (by kernel_rfl) iiz fun a w s=> ?_
 refine zA rfl ?_
 refine wpIn_seq ?_
 replace s:=s.drop [2]
 refine zB 2 ((3, .s ((UF.eq (.func (.func 153) #[] #[.pointer (some ⟨b1,0,none⟩)])).toSF))::(2, .u (UF.eq (.func (.func 153) #[] #[.pointer (some ⟨b1,0,none⟩)]))):: []) hmix s (by kernel_rfl)
  (oc (zEr (fun u W hb (h:(SF.pb b1 (CU.is [l]).cf).p u W)=>by rw [h.1];rfl))<|oc zG<|zE) fun a w2 s=> ?_
 refine zA rfl ?_
 refine wpIn_ret ?_
 obtain ⟨cs,e1,e2,e3⟩:=s.boxAt (c:=1) rfl
 exact StS.resN s (Below.refl _ _) rfl ⟨b1,cs,s.val (.head _),s.inB_new ⟨_, .head _,rfl,rfl⟩,e1,e2,e3⟩
theorem zN6 {w0 w_:World} {m b:Nat} {l:Value} {ps:List V2} {C:Nat→Prop} (hh:w_.heap[b]?=some (.cells #[l] 22 (0,0))) (hl:(SF.row 6 (pvs m ps)).p l w0) (hb0:Below w0.heap.size w0 w_) (hCl: ∀k,C k→k<w_.heap.size) (hC0: ∀k,C k→w0.heap.size≤k) (hCb: ¬C b) (hn:ps.length≤1000000) (h2:2≤ps.length):
  ItC Tryz.prog 153 #[.pointer (some ⟨b,0,none⟩)] (eF m ps) (nE ps) False C w_:=by
 intro l_ J Z W hwW hbW hkW hJs hZs hend hround hJ0
 have hlc:=zBK hl
 have hw0:w0.heap.size≤w_.heap.size:=hb0.size
 have hbW0:Below w0.heap.size w0 W:=hb0.trans (hbW.mono hb0.size)
 have hlW:=(SF.row 6 (pvs m ps)).st _ _ _ hl hbW0
 have hhW:W.heap[b]?=some (.cells #[l] 22 (0,0)):=(hbW.block b (Array.getElem?_eq_some_iff.1 hh).1).trans hh
 refine zJe Tryz.func153 rfl ?_
 have s:=zIy (w:=W) (fn:=Tryz.f153) (args:=#[.func (.yield l_) #[] #[]]++#[.pointer (some ⟨b,0,none⟩)]) noS [(0,UF.eq (.func (.yield l_) #[] #[]))] [⟨1,22,CU.is [l],b,true⟩] (by kernel_rfl) (fun q hq=>by obtain rfl:=List.mem_singleton.1 hq;exact ⟨by simp,rfl⟩) ⟨⟨[l],rfl, .inl rfl,hhW,rfl,by simp [hlc.2],fun y hy=>by cases hy⟩,trivial⟩ (fun x hx=>by obtain rfl:=List.mem_singleton.1 hx;show 1<2;decide)
 generalize ({ tmps:=#[.func (.yield l_) #[] #[]]++#[.pointer (some ⟨b,0,none⟩)]++Array.replicate (Tryz.f153.ntmps - (#[.func (.yield l_) #[] #[]]++#[.pointer (some ⟨b,0,none⟩)]:Array Value).size) undef,defers:= [] }:Act)=a at s ⊢
 refine wpIn_seq ?_
 refine zB 3 ((7, .s ((UF.eq l).toSF))::(8, .u (UF.eq (.int .i64 (((pvs m ps).length:Nat):Int))))::(9, .u (UF.eq (.int .i64 0))):: []) hmix s (by kernel_rfl)
  (oc (jH (C:=(CU.is [l]).cf) (by kernel_rfl) (fun _ _ h=>h.2) zEb)<|oc (y6 (z:=6) (Cs:=pvs m ps) (by kernel_rfl) (fun v W hb h=>(yW hlW h (s.up hb))) (fun _=>rfl))<|oc zC<|zE) fun a w1 s=> ?_
 refine zA rfl ?_
 refine wpIn_block ?_
 have hJw:J 0 w1:=hJs 0 _ _ hJ0 (zBM s.below lr)
 have hBw0:Below w0.heap.size w0 w1:=hbW0.trans (s.below.mono hbW0.size)
 have hW0:=s.gr.size
 replace s:=(s.keepK [(0, .u (UF.eq (.func (.yield l_) #[] #[]))),(8, .u (UF.eq (.int .i64 (((pvs m ps).length:Nat):Int)))),(9, .u (UF.eq (.int .i64 ((0:Nat):Int))))] (fmz ⟨mz2,fmz ⟨.head _,fmz ⟨mz1,fnz⟩⟩⟩)).self (zAu (by kernel_rfl))
 refine zDS (fun k a w=>k≤ps.length∧J k w∧Below w0.heap.size w0 w∧W.heap.size≤w.heap.size∧StS (inB [⟨1,22,CU.is [l],b,true⟩]) w [(0, .u (UF.eq (.func (.yield l_) #[] #[]))),(8, .u (UF.eq (.int .i64 (((pvs m ps).length:Nat):Int)))),(9, .u (UF.eq (.int .i64 ((k:Nat):Int))))] [⟨1,22,CU.is [l],b,true⟩] Tryz.f153.ntmps [] a w) (fun k=>ps.length - k) 0 ⟨Nat.zero_le _,hJw,hBw0,hW0,s⟩ fun k a w ⟨hk,hJ,hBw,hWs,s⟩=> ?_
 have s0:=s
 replace s:=s.toSt (fun q ⟨x,hx,_,hr⟩=>by obtain rfl:=List.mem_singleton.1 hx;cases hr) rfl
 have hlw:=(SF.row 6 (pvs m ps)).st _ _ _ hl hBw
 refine wpIn_seq ?_
 refine zB 1 ((10, .u (UF.eq (.bool (decide (((k:Nat):Int)<(((pvs m ps).length:Nat):Int)))))):: []) hmix s (by kernel_rfl)
  (oc (zQ .i64 ((k:Nat):Int) (((pvs m ps).length:Nat):Int) (decide (((k:Nat):Int)<(((pvs m ps).length:Nat):Int))) iiz iiz rfl rfl)<|zE) fun a w2 s=> ?_
 refine zA rfl ?_
 refine wpIn_seq ?_
 refine StS.cond s (decide (((k:Nat):Int)<(((pvs m ps).length:Nat):Int))) iiz (fun e=> ?_) (fun e=> ?_)
 ·have hkn:k<ps.length:=by have:=of_decide_eq_true e;simp at this;omega
  refine wpIn_skip ?_
  refine wpIn_seq ?_
  refine wpIn_block ?_
  refine wpIn_seq ?_
  refine zB 2 ((11, .s ((UF.eq (.int .i64 ((k:Nat):Int))).toSF))::(3, .u (UF.eq (.int .i64 ((k:Nat):Int)))):: []) hmix s (by kernel_rfl)
   (oc zC<|oc zG<|zE) fun a w3 s=> ?_
  refine zA rfl ?_
  refine wpIn_seq ?_
  refine zB 7 ((13, .s ((UF.eq l).toSF))::(14, .s ((UF.eq (.int .i64 ((k:Nat):Int))).toSF))::(15, .s ((zB7 (fPV m (at_ ps k)) (fPV m (at_ ps ((k+1) % ps.length))) (UF.eq (.bool true))).toSF))::(12, .s ((zB7 (fPV m (at_ ps k)) (fPV m (at_ ps ((k+1) % ps.length))) (UF.eq (.bool true))).toSF))::(16, .u (fPV m (at_ ps k)))::(17, .u (fPV m (at_ ps ((k+1) % ps.length))))::(18, .u (UF.eq (.bool true))):: []) hmix s (by kernel_rfl)
   (oc (jH (C:=(CU.is [l]).cf) (by kernel_rfl) (fun _ _ h=>h.2) zEb)<|oc zC<|oc (zH zD zO8 (fun u0 u1 W hb (h0:u0=l) (h1:u1= .int .i64 ((k:Nat):Int))=>by rw [show u0=l from h0];exact zSG ((SF.row 6 (pvs m ps)).st _ _ _ hlw (s.up hb)) h1 hkn hn h2))<|oc zC<|oc (zB1 (A:=(fPV m (at_ ps k)).toSF) (B:=(fPV m (at_ ps ((k+1) % ps.length))).toSF) (C:=(UF.eq (.bool true)).toSF) iiz)<|oc (zB0 (A:=(fPV m (at_ ps k)).toSF) (B:=(fPV m (at_ ps ((k+1) % ps.length))).toSF) (C:=(UF.eq (.bool true)).toSF) iiz)<|oc (zBZ (A:=(fPV m (at_ ps k)).toSF) (B:=(fPV m (at_ ps ((k+1) % ps.length))).toSF) (C:=(UF.eq (.bool true)).toSF) iiz)<|zE) fun a w4 s=> ?_
  refine zY (CU.len 6) (cs:=zP6) (by kernel_rfl) rfl s (by kernel_rfl) (fun W=>rfl) rfl fun b4 a w s=> ?_
  refine zY (CU.len 6) (cs:=zP6) (by kernel_rfl) rfl s (by kernel_rfl) (fun W=>rfl) rfl fun b5 a w s=> ?_
  refine zV (CU.agg (fPV m (at_ ps k))) ((fPV m (at_ ps k)).toSF) rfl s (by kernel_rfl) rfl rfl rfl iiz iiz yR fun a w s=> ?_
  refine zV (CU.agg (fPV m (at_ ps ((k+1) % ps.length)))) ((fPV m (at_ ps ((k+1) % ps.length))).toSF) rfl s (by kernel_rfl) rfl rfl rfl iiz iiz yR fun a w s=> ?_
  refine yU (UF.eq (.bool true)) rfl s (by kernel_rfl) iiz fun a w s=> ?_
  refine zA rfl ?_
  refine wpIn_seq ?_
  refine zB 7 ((19, .s ((UF.eq (.bool true)).toSF))::(20, .u (UF.eq (.bool true)))::(21, .u (UF.eq (.func (.yield l_) #[] #[])))::(22, .u (UF.eq (.int .i64 ((k:Nat):Int))))::(23, .s ((fPV m (at_ ps k)).toSF))::(24, .s ((fPV m (at_ ps ((k+1) % ps.length))).toSF))::(25, .u (fPR (fPV m (at_ ps k)) (fPV m (at_ ps ((k+1) % ps.length))))):: []) hmix s (by kernel_rfl)
   (oc zC<|oc zC<|oc (zF 20 true (by kernel_rfl) iiz (fun _=>zC) arf)<|oc (zF 20 true (by kernel_rfl) iiz (fun _=>zC) arf)<|oc (zF 20 true (by kernel_rfl) iiz (fun _=>zK (f:=fPV m (at_ ps k)) 6 (by kernel_rfl) (hz:=zP _ _)) arf)<|oc (zF 20 true (by kernel_rfl) iiz (fun _=>zK (f:=fPV m (at_ ps ((k+1) % ps.length))) 6 (by kernel_rfl) (hz:=zP _ _)) arf)<|oc (zF 20 true (by kernel_rfl) iiz (fun _=>qM (fun u v W (hu:(fPV m (at_ ps k)).p u W) (hv:(fPV m (at_ ps ((k+1) % ps.length))).p v W)=>zUp hu hv)) arf)<|zE) fun a w5 s=> ?_
  have hJ1:J k w5:=hJs _ _ _ hJ (zBM s.below hWs)
  have hB1:Below w0.heap.size w0 w5:=hBw.trans (s.below.mono hBw.size)
  have hb4:=s.inB_new (q:=b4) ⟨_,mz1,rfl,rfl⟩
  have hb5:=s.inB_new (q:=b5) ⟨_, .head _,rfl,rfl⟩
  have hws:=s.gr.size
  have hcx: ∀x,x∈([⟨5,30,CU.agg (fPV m (at_ ps ((k+1) % ps.length))),b5,false⟩,⟨4,30,CU.agg (fPV m (at_ ps k)),b4,false⟩,⟨1,22,CU.is [l],b,true⟩]:List Bx)→ ¬C x.b:=fun x hx hc=>by
   have h9:=fun q hq=>hCl q hq
   rcases List.mem_cons.1 hx with rfl|hx
   ·have:=hCl _ hc;show False;have h9:b5<w_.heap.size:=this;omega
   rcases List.mem_cons.1 hx with rfl|hx
   ·have:=hCl _ hc;show False;have h9:b4<w_.heap.size:=this;omega
   ·obtain rfl:=List.mem_singleton.1 hx;exact hCb hc
  refine zM1 rfl (zGx (k:=7) (j:=1) (want:=true) rfl (s.val (.head _))) s iiz (by kernel_rfl) (zAu (by kernel_rfl)) hcx (hround k _ _ (by unfold nE;rw [if_pos h2];exact hkn) hJ1 ⟨by simp,fun j f hj=> ?_⟩) fun a w bv hr hbv s=> ?_
  ·match j,hj with
   |0,hj=>obtain rfl:=Option.some.inj hj;rw [zTt];exact s.at.sl 22
   |1,hj=>obtain rfl:=Option.some.inj hj;rw [zTs];exact s.at.sl 25
  have hB2:=zKV hB1 hr hw0 hC0
  have sy:=s
  refine zBo (UF.eq (.bool (!bv))) rfl rfl s iiz (by kernel_rfl) (zD6 bv iiz (fun _=>rfl)) (by kernel_rfl) fun a w s=> ?_
  refine zBH (UF.eq (.bool (!bv))) rfl s (by kernel_rfl) (yF true iiz (fun _ _ _ h=>h) (fun e=>by cases e)) (by kernel_rfl) fun a w s=> ?_
  refine zA rfl ?_
  have hsz2:=hr.size
  have hitr:=sy.itr_to (N:=W.heap.size) s.gr (fun x hx hr1=>by rcases List.mem_cons.1 hx with rfl|hx;show W.heap.size≤b5;omega;rcases List.mem_cons.1 hx with rfl|hx;show W.heap.size≤b4;omega;obtain rfl:=List.mem_singleton.1 hx;cases hr1) (by omega)
  refine StS.cond s (!bv) iiz (fun e=> ?_) (fun e=> ?_)
  ·have hz:=hZs _ _ (by rcases hbv with ⟨e2,_⟩|⟨_,hz⟩;rw [e2] at e;cases e;exact hz) hitr
   refine wpIn_ret ?_
   exact ⟨s.nd, .tuple #[],by simp [results,Tryz.results153],⟨_,rfl⟩, .inr hz⟩
  ·have hJ2:=hJs _ _ _ (by rcases hbv with ⟨_,hj⟩|⟨e2,_⟩;exact hj;rw [e2] at e;cases e) hitr
   have hB3:=(Below.refl w0.heap.size w0).trans (zHo hB2 s.gr (fun q ⟨x,hx,e1,hr1⟩=>by rcases List.mem_cons.1 hx with rfl|hx;have e1:b5=q:=e1;omega;rcases List.mem_cons.1 hx with rfl|hx;have e1:b4=q:=e1;omega;obtain rfl:=List.mem_singleton.1 hx;cases hr1))
   have hW3:=s.gr.size
   have sx:=s
   replace s:=s.self (zAu (by kernel_rfl))
   refine wpIn_skip ?_
   refine qC 1 ((29, .u (UF.eq (.int .i64 ((k+1:Nat):Int)))):: []) s (by kernel_rfl)
    (oc (y7 .i64 ((k:Nat):Int) 1 ((k+1:Nat):Int) iiz iiz (wrap64 _ _ (by omega) (by omega)))<|zE) fun a w6 s=> ?_
   replace s:=s.drop [9]
   refine zBH (UF.eq (.int .i64 ((k+1:Nat):Int))) rfl s (by kernel_rfl) zC (by kernel_rfl) fun a w s=> ?_
   refine zA rfl ?_
   have hsz4:=s.gr.size
   have hit2:=sx.itr_to (N:=W.heap.size) s.gr (fun x hx hr1=>by rcases List.mem_cons.1 hx with rfl|hx;show W.heap.size≤b5;omega;rcases List.mem_cons.1 hx with rfl|hx;show W.heap.size≤b4;omega;obtain rfl:=List.mem_singleton.1 hx;cases hr1) (by omega)
   have hB4:=zHo hB3 s.gr (fun q ⟨x,hx,e1,hr1⟩=>by rcases List.mem_cons.1 hx with rfl|hx;have e1:b5=q:=e1;omega;rcases List.mem_cons.1 hx with rfl|hx;have e1:b4=q:=e1;omega;obtain rfl:=List.mem_singleton.1 hx;cases hr1)
   exact ⟨k+1,by show ps.length - (k+1)<ps.length - k;omega,hkn,hJs _ _ _ hJ2 hit2,hB4,by omega,(((s.keepK _ (fmz ⟨zS0,fmz ⟨.tail _ zS0,fmz ⟨.head _,fnz⟩⟩⟩)).popB).popB).self (zAu (by kernel_rfl))⟩
 ·have hkn:k=ps.length:=by have h7:=of_decide_eq_false e;simp at h7;omega
  refine wpIn_exit ?_
  exact ⟨s.nd, .tuple #[],by simp [results,Tryz.results153],⟨_,rfl⟩, .inl (by unfold nE;rw [if_pos h2, ←hkn];exact hJs _ _ _ hJ (zBM s.below hWs))⟩
theorem zN7 {w0 w_:World} {m b:Nat} {l:Value} {ps:List V2} {C:Nat→Prop} (hh:w_.heap[b]?=some (.cells #[l] 22 (0,0))) (hl:(SF.row 6 (pvs m ps)).p l w0) (hb0:Below w0.heap.size w0 w_) (hCl: ∀k,C k→k<w_.heap.size) (hC0: ∀k,C k→w0.heap.size≤k) (hCb: ¬C b) (hn:ps.length≤1000000) (h2:ps.length<2):
  ItC Tryz.prog 153 #[.pointer (some ⟨b,0,none⟩)] (eF m ps) (nE ps) False C w_:=by
 intro l_ J Z W hwW hbW hkW hJs hZs hend hround hJ0
 have hlc:=zBK hl
 have hw0:w0.heap.size≤w_.heap.size:=hb0.size
 have hbW0:Below w0.heap.size w0 W:=hb0.trans (hbW.mono hb0.size)
 have hlW:=(SF.row 6 (pvs m ps)).st _ _ _ hl hbW0
 have hhW:W.heap[b]?=some (.cells #[l] 22 (0,0)):=(hbW.block b (Array.getElem?_eq_some_iff.1 hh).1).trans hh
 refine zJe Tryz.func153 rfl ?_
 have s:=zIy (w:=W) (fn:=Tryz.f153) (args:=#[.func (.yield l_) #[] #[]]++#[.pointer (some ⟨b,0,none⟩)]) noS [(0,UF.eq (.func (.yield l_) #[] #[]))] [⟨1,22,CU.is [l],b,true⟩] (by kernel_rfl) (fun q hq=>by obtain rfl:=List.mem_singleton.1 hq;exact ⟨by simp,rfl⟩) ⟨⟨[l],rfl, .inl rfl,hhW,rfl,by simp [hlc.2],fun y hy=>by cases hy⟩,trivial⟩ (fun x hx=>by obtain rfl:=List.mem_singleton.1 hx;show 1<2;decide)
 generalize ({ tmps:=#[.func (.yield l_) #[] #[]]++#[.pointer (some ⟨b,0,none⟩)]++Array.replicate (Tryz.f153.ntmps - (#[.func (.yield l_) #[] #[]]++#[.pointer (some ⟨b,0,none⟩)]:Array Value).size) undef,defers:= [] }:Act)=a at s ⊢
 refine wpIn_seq ?_
 refine zB 3 ((7, .s ((UF.eq l).toSF))::(8, .u (UF.eq (.int .i64 (((pvs m ps).length:Nat):Int))))::(9, .u (UF.eq (.int .i64 0))):: []) hmix s (by kernel_rfl)
  (oc (jH (C:=(CU.is [l]).cf) (by kernel_rfl) (fun _ _ h=>h.2) zEb)<|oc (y6 (z:=6) (Cs:=pvs m ps) (by kernel_rfl) (fun v W hb h=>(yW hlW h (s.up hb))) (fun _=>rfl))<|oc zC<|zE) fun a w1 s=> ?_
 refine zA rfl ?_
 refine wpIn_block ?_
 have hJw:J 0 w1:=hJs 0 _ _ hJ0 (zBM s.below lr)
 have hBw0:Below w0.heap.size w0 w1:=hbW0.trans (s.below.mono hbW0.size)
 have hW0:=s.gr.size
 replace s:=(s.keepK [(0, .u (UF.eq (.func (.yield l_) #[] #[]))),(8, .u (UF.eq (.int .i64 (((pvs m ps).length:Nat):Int)))),(9, .u (UF.eq (.int .i64 ((0:Nat):Int))))] (fmz ⟨mz2,fmz ⟨.head _,fmz ⟨mz1,fnz⟩⟩⟩)).self (zAu (by kernel_rfl))
 refine zDS (fun k a w=>k≤ps.length∧J 0 w∧Below w0.heap.size w0 w∧W.heap.size≤w.heap.size∧StS (inB [⟨1,22,CU.is [l],b,true⟩]) w [(0, .u (UF.eq (.func (.yield l_) #[] #[]))),(8, .u (UF.eq (.int .i64 (((pvs m ps).length:Nat):Int)))),(9, .u (UF.eq (.int .i64 ((k:Nat):Int))))] [⟨1,22,CU.is [l],b,true⟩] Tryz.f153.ntmps [] a w) (fun k=>ps.length - k) 0 ⟨Nat.zero_le _,hJw,hBw0,hW0,s⟩ fun k a w ⟨hk,hJ,hBw,hWs,s⟩=> ?_
 have s0:=s
 replace s:=s.toSt (fun q ⟨x,hx,_,hr⟩=>by obtain rfl:=List.mem_singleton.1 hx;cases hr) rfl
 have hlw:=(SF.row 6 (pvs m ps)).st _ _ _ hl hBw
 refine wpIn_seq ?_
 refine zB 1 ((10, .u (UF.eq (.bool (decide (((k:Nat):Int)<(((pvs m ps).length:Nat):Int)))))):: []) hmix s (by kernel_rfl)
  (oc (zQ .i64 ((k:Nat):Int) (((pvs m ps).length:Nat):Int) (decide (((k:Nat):Int)<(((pvs m ps).length:Nat):Int))) iiz iiz rfl rfl)<|zE) fun a w2 s=> ?_
 refine zA rfl ?_
 refine wpIn_seq ?_
 refine StS.cond s (decide (((k:Nat):Int)<(((pvs m ps).length:Nat):Int))) iiz (fun e=> ?_) (fun e=> ?_)
 ·have hkn:k<ps.length:=by have:=of_decide_eq_true e;simp at this;omega
  refine wpIn_skip ?_
  refine wpIn_seq ?_
  refine wpIn_block ?_
  refine wpIn_seq ?_
  refine zB 2 ((11, .s ((UF.eq (.int .i64 ((k:Nat):Int))).toSF))::(3, .u (UF.eq (.int .i64 ((k:Nat):Int)))):: []) hmix s (by kernel_rfl)
   (oc zC<|oc zG<|zE) fun a w3 s=> ?_
  refine zA rfl ?_
  refine wpIn_seq ?_
  refine zB 7 ((13, .s ((UF.eq l).toSF))::(14, .s ((UF.eq (.int .i64 ((k:Nat):Int))).toSF))::(15, .s ((zB7 (fPV m (((0:Rat),(0:Rat)):V2)) (fPV m (((0:Rat),(0:Rat)):V2)) (UF.eq (.bool false))).toSF))::(12, .s ((zB7 (fPV m (((0:Rat),(0:Rat)):V2)) (fPV m (((0:Rat),(0:Rat)):V2)) (UF.eq (.bool false))).toSF))::(16, .u (fPV m (((0:Rat),(0:Rat)):V2)))::(17, .u (fPV m (((0:Rat),(0:Rat)):V2)))::(18, .u (UF.eq (.bool false))):: []) hmix s (by kernel_rfl)
   (oc (jH (C:=(CU.is [l]).cf) (by kernel_rfl) (fun _ _ h=>h.2) zEb)<|oc zC<|oc (zH zD zO8 (fun u0 u1 W hb (h0:u0=l) (h1:u1= .int .i64 ((k:Nat):Int))=>by rw [show u0=l from h0];exact zQO ((SF.row 6 (pvs m ps)).st _ _ _ hlw (s.up hb)) h1 hkn hn h2))<|oc zC<|oc (zB1 (A:=(fPV m (((0:Rat),(0:Rat)):V2)).toSF) (B:=(fPV m (((0:Rat),(0:Rat)):V2)).toSF) (C:=(UF.eq (.bool false)).toSF) iiz)<|oc (zB0 (A:=(fPV m (((0:Rat),(0:Rat)):V2)).toSF) (B:=(fPV m (((0:Rat),(0:Rat)):V2)).toSF) (C:=(UF.eq (.bool false)).toSF) iiz)<|oc (zBZ (A:=(fPV m (((0:Rat),(0:Rat)):V2)).toSF) (B:=(fPV m (((0:Rat),(0:Rat)):V2)).toSF) (C:=(UF.eq (.bool false)).toSF) iiz)<|zE) fun a w4 s=> ?_
  refine zY (CU.len 6) (cs:=zP6) (by kernel_rfl) rfl s (by kernel_rfl) (fun W=>rfl) rfl fun b4 a w s=> ?_
  refine zY (CU.len 6) (cs:=zP6) (by kernel_rfl) rfl s (by kernel_rfl) (fun W=>rfl) rfl fun b5 a w s=> ?_
  refine zV (CU.agg (fPV m (((0:Rat),(0:Rat)):V2))) ((fPV m (((0:Rat),(0:Rat)):V2)).toSF) rfl s (by kernel_rfl) rfl rfl rfl iiz iiz yR fun a w s=> ?_
  refine zV (CU.agg (fPV m (((0:Rat),(0:Rat)):V2))) ((fPV m (((0:Rat),(0:Rat)):V2)).toSF) rfl s (by kernel_rfl) rfl rfl rfl iiz iiz yR fun a w s=> ?_
  refine yU (UF.eq (.bool false)) rfl s (by kernel_rfl) iiz fun a w s=> ?_
  refine zA rfl ?_
  refine wpIn_seq ?_
  refine zB 10 ((19, .s ((UF.eq (.bool false)).toSF))::(20, .s ((UF.eq (.bool false)).toSF))::(28, .u (UF.eq (.bool false))):: []) hmix s (by kernel_rfl)
   (oc zC<|oc zC<|oc (zF 20 false (by kernel_rfl) iiz (fun e=>by cases e) (fun _ _=>trivial))<|oc (zF 20 false (by kernel_rfl) iiz (fun e=>by cases e) (fun _ _=>trivial))<|oc (zF 20 false (by kernel_rfl) iiz (fun e=>by cases e) (fun _ _=>trivial))<|oc (zF 20 false (by kernel_rfl) iiz (fun e=>by cases e) (fun _ _=>trivial))<|oc (zF 20 false (by kernel_rfl) iiz (fun e=>by cases e) (fun _ _=>trivial))<|oc (zF 20 false (by kernel_rfl) iiz (fun e=>by cases e) (fun _ _=>trivial))<|oc (zF 20 false (by kernel_rfl) iiz (fun e=>by cases e) (fun _ _=>trivial))<|oc (yF false iiz (fun e=>by cases e) (fun _ _ _ h=>h))<|zE) fun a w5 s=> ?_
  refine zA rfl ?_
  refine StS.cond s false iiz (fun e=>by cases e) (fun e=> ?_)
  refine wpIn_skip ?_
  refine qC 1 ((29, .u (UF.eq (.int .i64 ((k+1:Nat):Int)))):: []) s (by kernel_rfl)
   (oc (y7 .i64 ((k:Nat):Int) 1 ((k+1:Nat):Int) iiz iiz (wrap64 _ _ (by omega) (by omega)))<|zE) fun a w6 s=> ?_
  replace s:=s.drop [9]
  refine zBH (UF.eq (.int .i64 ((k+1:Nat):Int))) rfl s (by kernel_rfl) zC (by kernel_rfl) fun a w s=> ?_
  refine zA rfl ?_
  have hsz4:=s.gr.size
  exact ⟨k+1,by show ps.length - (k+1)<ps.length - k;omega,hkn,hJs _ _ _ hJ (zBM s.below hWs),hBw.trans (s.below.mono hBw.size),by omega,(((s.keepK _ (fmz ⟨mz9,fmz ⟨zTm,fmz ⟨.head _,fnz⟩⟩⟩)).popB).popB).self (zAu (by kernel_rfl))⟩
 ·have hkn:k=ps.length:=by have h7:=of_decide_eq_false e;simp at h7;omega
  refine wpIn_exit ?_
  exact ⟨s.nd, .tuple #[],by simp [results,Tryz.results153],⟨_,rfl⟩, .inl (by unfold nE;rw [if_neg (by omega)];exact hJs _ _ _ hJ (zBM s.below hWs))⟩
theorem zHe {w0 w_:World} {m b:Nat} {l:Value} {ps:List V2} {C:Nat→Prop} (hh:w_.heap[b]?=some (.cells #[l] 22 (0,0))) (hl:(SF.row 6 (pvs m ps)).p l w0) (hb0:Below w0.heap.size w0 w_) (hCl: ∀k,C k→k<w_.heap.size) (hC0: ∀k,C k→w0.heap.size≤k) (hCb: ¬C b) (hn:ps.length≤1000000):ItC Tryz.prog 153 #[.pointer (some ⟨b,0,none⟩)] (eF m ps) (nE ps) False C w_:=by
 rcases Nat.lt_or_ge ps.length 2 with h2|h2
 ·exact zN7 hh hl hb0 hCl hC0 hCb hn h2
 ·exact zN6 hh hl hb0 hCl hC0 hCb hn h2
end Go.Proofs.Wd

namespace Go.Proofs.Wd
set_option maxRecDepth 100000
set_option maxHeartbeats 1000000
open Go.RowKit Lb
def zQP (a b p:V2):Bool:=(decide (qsg a.2 p.2≤0)&&decide (qsg p.2 b.2<0))&&(yM a b p==1)
def zCO (a b p:V2):Bool:=if qsg a.2 b.2>0 then zQP b a p else zQP a b p
theorem zOl {a b p:V2} (h:decide (qsg a.2 b.2>0)=true):zCO a b p=zQP b a p:=if_pos (of_decide_eq_true h)
theorem zOm {a b p:V2} (h:decide (qsg a.2 b.2>0)=false):zCO a b p=zQP a b p:=if_neg (of_decide_eq_false h)
def zEc (f:Nat→Bool) (N:Nat):Int:=match (List.range N).find? f with|some k=>(k:Int)|none=> -1
def zDR (f:Nat→Bool) (k:Nat):Prop:= ∀j,j<k→f j=false
theorem zIb {f:Nat→Bool} {N:Nat} (h:zDR f N):zEc f N= -1:=by
 unfold zEc
 rw [List.find?_eq_none.2 (fun x hx=>by rw [h x (List.mem_range.1 hx)];simp)]
theorem zMf {f:Nat→Bool} {N k:Nat} (hk:k<N) (h:zDR f k) (e:f k=true):zEc f N=(k:Int):=by
 unfold zEc
 have:(List.range N).find? f=some k:=by
  rw [List.find?_range_eq_some]
  exact ⟨e,List.mem_range.2 hk,fun j hj=>by rw [h j hj];rfl⟩
 rw [this]
theorem zJ2 {f:Nat→Bool} {k:Nat} (h:zDR f k) (e:f k=false):zDR f (k+1):=fun j hj=>by
 rcases Nat.lt_or_eq_of_le (Nat.le_of_lt_succ hj) with h'|h'
 ·exact h j h'
 ·rw [h'];exact e
def zBa (f:Nat→Bool):Nat→Nat
 |0=>0
 |k+1=>zBa f k+(if f k=true then 1 else 0)
theorem zIf (f:Nat→Bool): ∀k,zBa f k≤k
 |0=>Nat.le_refl _
 |k+1=>by
  have:=zIf f k
  show zBa f k+_≤_
  split<;>omega
theorem zSK {f:Nat→Bool} {k:Nat} (h:f k=true):zBa f (k+1)=zBa f k+1:=by show _+(if f k=true then 1 else 0)=_;rw [if_pos h]
theorem zSL {f:Nat→Bool} {k:Nat} (h:f k=false):zBa f (k+1)=zBa f k:=by show _+(if f k=true then 1 else 0)=_;rw [if_neg (by simp [h])];rfl
def onK (ps:List V2) (p:V2) (k:Nat):Bool:=onB (at_ ps k) (at_ ps ((k+1) % ps.length)) p
def crK (ps:List V2) (p:V2) (k:Nat):Bool:=zCO (at_ ps k) (at_ ps ((k+1) % ps.length)) p
def onI (ps:List V2) (p:V2):Int:=zEc (onK ps p) (nE ps)
def crN (ps:List V2) (p:V2):Nat:=zBa (crK ps p) (nE ps)
theorem zRM (ps:List V2):nE ps≤ps.length:=by unfold nE;split<;>omega
def yD (ps:List V2) (p:V2):Int:=if onI ps p≥0 then 0 else 2*((crN ps p % 2:Nat):Int) - 1
theorem zIz {z:Int} {C:CU} {Q:Prop} (hC: ∀cs W,C.p cs W→cs.length=1∧Q) (v:Value) (W:World) (h:(UF.eq (.int .i64 z)).p v W):v.cells.size=1∧(∀u,u∈v.cells.toList→u.oneCell'=true)∧v.cells.toList.all yG=true∧ ∀cs,C.p cs W→0+1≤cs.length∧(CU.isP (.int .i64 z) Q).p (j9 cs 0 v.cells.toList) W:=by
 obtain rfl:v=_:=h
 refine ⟨rfl,fun u hu=>by simp [Value.cells] at hu;rw [hu];rfl,rfl,fun cs hc=> ?_⟩
 obtain ⟨hc',hq⟩:=hC cs W hc
 obtain ⟨c,rfl⟩:=List.length_eq_one_iff.1 hc'
 exact ⟨by simp,rfl,hq⟩
section
variable {f g f' g' f'' g'':UF}
theorem zQ8 (v:Value) (W:World) (h:(fPT f'' g'').p v W):v.cells.size=6∧(∀u,u∈v.cells.toList→u.oneCell'=true)∧v.cells.toList.all yG=true∧ ∀cs,(CU.agg (fPR (fPT f g) (fPT f' g'))).p cs W→0+6≤cs.length∧(CU.agg (fPR (fPT f'' g'') (fPT f' g'))).p (j9 cs 0 v.cells.toList) W:=by
 obtain ⟨vs,rfl,hl,h1,h2,h3⟩:=yR v W h
 refine ⟨by simpa [Value.cells] using hl,by simpa [Value.cells] using h1,by simpa [Value.cells] using h2,fun cs hc=> ?_⟩
 obtain ⟨a,b,rfl,l1,l2,g1,g2⟩:=zBU hc
 refine ⟨by simp [l1,l2],vs,b, ?_,h3,g2⟩
 have e:j9 (a++b) 0 (Value.agg vs.toArray).cells.toList=vs++b:=by
  unfold j9
  have:(Value.agg vs.toArray).cells.toList=vs:=rfl
  rw [this,List.take_zero,List.nil_append,Nat.zero_add,hl,List.drop_append_of_le_length (by omega),List.drop_of_length_le (by omega),List.nil_append]
 rw [e]
theorem zQ7 (v:Value) (W:World) (h:(fPT f'' g'').p v W):v.cells.size=6∧(∀u,u∈v.cells.toList→u.oneCell'=true)∧v.cells.toList.all yG=true∧ ∀cs,(CU.agg (fPR (fPT f g) (fPT f' g'))).p cs W→6+6≤cs.length∧(CU.agg (fPR (fPT f g) (fPT f'' g''))).p (j9 cs 6 v.cells.toList) W:=by
 obtain ⟨vs,rfl,hl,h1,h2,h3⟩:=yR v W h
 refine ⟨by simpa [Value.cells] using hl,by simpa [Value.cells] using h1,by simpa [Value.cells] using h2,fun cs hc=> ?_⟩
 obtain ⟨a,b,rfl,l1,l2,g1,g2⟩:=zBU hc
 refine ⟨by simp [l1,l2],a,vs, ?_,g1,h3⟩
 have e:j9 (a++b) 6 (Value.agg vs.toArray).cells.toList=a++vs:=by
  unfold j9
  have:(Value.agg vs.toArray).cells.toList=vs:=rfl
  rw [this,hl,List.take_append_of_le_length (by omega),List.take_of_length_le (by omega),List.drop_of_length_le (by simp;omega),List.append_nil]
 rw [e]
end
theorem zMw (n:Nat) (hn:n<9223372036854775808):bits .and .i64 ((n:Nat):Int) 1=((n % 2:Nat):Int):=by
 have h1:(BitVec.ofInt 64 (n:Int)).toNat=n:=by
  rw [BitVec.ofInt_natCast,BitVec.toNat_ofNat];exact Nat.mod_eq_of_lt (by omega)
 show IntKind.i64.wrap ((BitVec.ofInt 64 (n:Int)&&& BitVec.ofInt 64 (1:Int)).toNat:Int)=_
 rw [BitVec.toNat_and,h1,show (BitVec.ofInt 64 (1:Int)).toNat=1 by decide,Nat.and_one_is_mod,IntKind.wrap_i64]
 omega
section
variable {F:Fence} {m:Nat} {P:Program} {w0:World} {ops:Array Oper} {G:Nat→SF} {d:Tmp} {ty:TypeId} {pos:String} {aft:Array Edge}
theorem zQn {t:TypeId} {x y:Operand} {t':TypeId} (n:Nat) (hn:n<9223372036854775808) (hx: ∀q W,(fct G x).p q W→q= .int .i64 ((n:Nat):Int)) (hy: ∀q W,(fct G y).p q W→q= .int .i64 1) (hd: ∀W,(G d).p (.int .i64 ((n % 2:Nat):Int)) W:=by exact fun _=>rfl):qK F m P w0 ops G ⟨some d, .binOp .and t x y t',ty,pos,aft,none⟩:=
 zCn (.int .i64 ((n:Nat):Int)) (.int .i64 1) (.int .i64 ((n % 2:Nat):Int)) hx hy (fun W=>by simp [eqGuard]) (fun W=>by
  have h:=zMw n hn
  simp [go_sem,h]) hd
end
theorem zQQ {m:Nat} {W:World} {x y p:V2} {u v:Value} (h1:(fPR (fPV m x) (fPV m y)).p u W) (h2:(fPV m p).p v W) (hm:m≤159) (hm0:0<m) (hT:Tab W):Calls Tryz.prog 123 #[u,v] W (Ret W (fB (zCO x y p)).toSF):=by
 refine z7 [(fPR (fPV m x) (fPV m y)).toSF,(fPV m p).toSF] Tryz.func123 rfl (by kernel_rfl) ⟨h1,h2,trivial⟩ fun a s=> ?_
 replace s:=s.renew [(0, .u (fPR (fPV m x) (fPV m y))),(1, .u (fPV m p))] (fmz ⟨.inr ⟨_,rfl, .head _⟩,fmz ⟨.inr ⟨_,rfl,mz1⟩,fnz⟩⟩)
 refine wpIn_seq ?_
 refine zB 0 [] hmix s (by kernel_rfl)
  zE fun a w1 s=> ?_
 refine yJ (CU.agg (fPR (fPV m x) (fPV m y))) rfl s (by kernel_rfl) (fun v W h=>zRG h) fun b2 a w s=> ?_
 refine yJ (CU.agg (fPV m p)) rfl s (by kernel_rfl) (fun v W h=>yP h) fun b3 a w s=> ?_
 refine yU (UF.eq (.bool false)) rfl s (by kernel_rfl) iiz fun a w s=> ?_
 refine zA rfl ?_
 refine wpIn_seq ?_
 refine wpIn_seq ?_
 refine zB 8 ((5, .s (SF.ptr ((CU.agg (fPR (fPV m x) (fPV m y))).cf.at 0)))::(6, .s (SF.ptr ((CU.agg (fPR (fPV m x) (fPV m y))).cf.at 3)))::(7, .s ((fRV m ((x).2)).toSF))::(8, .s (SF.ptr ((CU.agg (fPR (fPV m x) (fPV m y))).cf.at 6)))::(9, .s (SF.ptr ((CU.agg (fPR (fPV m x) (fPV m y))).cf.at 9)))::(10, .s ((fRV m ((y).2)).toSF))::(11, .s ((UF.eq (.int .i64 (qsg ((x).2) ((y).2)))).toSF))::(12, .u (UF.eq (.bool (decide (qsg ((x).2) ((y).2)>0))))):: []) hmix s (by kernel_rfl)
  (oc (zN (C:=(CU.agg (fPR (fPV m x) (fPV m y))).cf) 0 (by kernel_rfl))<|oc (yT (C:=(CU.agg (fPR (fPV m x) (fPV m y))).cf) 0 3 (by kernel_rfl))<|oc (zX (C:=(CU.agg (fPR (fPV m x) (fPV m y))).cf) (k:=3) 3 (by kernel_rfl) (h:=zQe))<|oc (zN (C:=(CU.agg (fPR (fPV m x) (fPV m y))).cf) 6 (by kernel_rfl))<|oc (yT (C:=(CU.agg (fPR (fPV m x) (fPV m y))).cf) 6 3 (by kernel_rfl))<|oc (zX (C:=(CU.agg (fPR (fPV m x) (fPV m y))).cf) (k:=9) 3 (by kernel_rfl) (h:=zQd))<|oc (zH zD zEd (fun u0 u1 W hb (h0:RVp m ((x).2) u0 W) (h1:RVp m ((y).2) u1 W)=>zD5 h0 h1 (by omega) hm0 (hT.below (s.up hb))))<|oc (zQ .i64 (qsg ((x).2) ((y).2)) 0 (decide (qsg ((x).2) ((y).2)>0)) iiz iiz rfl rfl)<|zE) fun a w2 s=> ?_
 refine zA rfl ?_
 refine StS.cond s (decide (qsg ((x).2) ((y).2)>0)) iiz (fun e=> ?_) (fun e=> ?_)
 ·refine zB 5 ((13, .s (SF.ptr ((CU.agg (fPR (fPV m x) (fPV m y))).cf.at 6)))::(14, .u (fPV m y))::(15, .s (SF.ptr ((CU.agg (fPR (fPV m x) (fPV m y))).cf.at 0)))::(16, .u (fPV m x))::(17, .u (UF.eq (.pointer (some ⟨b2,0,none⟩)))):: []) hmix s (by kernel_rfl)
   (oc (zN (C:=(CU.agg (fPR (fPV m x) (fPV m y))).cf) 6 (by kernel_rfl))<|oc (zX (C:=(CU.agg (fPR (fPV m x) (fPV m y))).cf) (k:=6) 6 (by kernel_rfl) (h:=zIW))<|oc (zN (C:=(CU.agg (fPR (fPV m x) (fPV m y))).cf) 0 (by kernel_rfl))<|oc (zX (C:=(CU.agg (fPR (fPV m x) (fPV m y))).cf) (k:=0) 6 (by kernel_rfl) (h:=zIX))<|oc (jK (b:=b2) (o:=0) 0 (by kernel_rfl) (fun _ _ h=>h.1))<|zE) fun a w3 s=> ?_
  refine jP (c:=2) (o:=0) (kk:=6) (CU.agg (fPR (fPV m y) (fPV m y))) ((fPV m y).toSF) rfl s (by kernel_rfl) rfl rfl iiz iiz zQ8 fun a w s=> ?_
  refine zBH (UF.eq (.pointer (some ⟨b2,6,none⟩))) rfl s (by kernel_rfl) (jK (b:=b2) (o:=0) 6 (by kernel_rfl) (fun _ _ h=>h.1)) (by kernel_rfl) fun a w s=> ?_
  refine jP (c:=2) (o:=6) (kk:=6) (CU.agg (fPR (fPV m y) (fPV m x))) ((fPV m x).toSF) rfl s (by kernel_rfl) rfl rfl iiz iiz zQ7 fun a w s=> ?_
  refine zA rfl ?_
  refine wpIn_seq ?_
  replace s:=s.drop [4]
  refine zB 26 ((19, .s (SF.ptr ((CU.agg (fPR (fPV m y) (fPV m x))).cf.at 0)))::(20, .s (SF.ptr ((CU.agg (fPR (fPV m y) (fPV m x))).cf.at 3)))::(21, .s ((fRV m ((y).2)).toSF))::(22, .s (SF.ptr ((CU.agg (fPV m p)).cf.at 3)))::(23, .s ((fRV m ((p).2)).toSF))::(24, .s ((UF.eq (.int .i64 (qsg ((y).2) ((p).2)))).toSF))::(25, .s ((UF.eq (.bool (decide (qsg ((y).2) ((p).2)≤0)))).toSF))::(26, .s ((UF.eq (.bool (decide (qsg ((y).2) ((p).2)≤0)))).toSF))::(27, .s (SF.imp ((decide (qsg ((y).2) ((p).2)≤0))=true) (SF.ptr ((CU.agg (fPV m p)).cf.at 3))))::(28, .s (SF.imp ((decide (qsg ((y).2) ((p).2)≤0))=true) ((fRV m ((p).2)).toSF)))::(29, .s (SF.imp ((decide (qsg ((y).2) ((p).2)≤0))=true) (SF.ptr ((CU.agg (fPR (fPV m y) (fPV m x))).cf.at 6))))::(30, .s (SF.imp ((decide (qsg ((y).2) ((p).2)≤0))=true) (SF.ptr ((CU.agg (fPR (fPV m y) (fPV m x))).cf.at 9))))::(31, .s (SF.imp ((decide (qsg ((y).2) ((p).2)≤0))=true) ((fRV m ((x).2)).toSF)))::(32, .s (SF.imp ((decide (qsg ((y).2) ((p).2)≤0))=true) ((UF.eq (.int .i64 (qsg ((p).2) ((x).2)))).toSF)))::(33, .s (SF.imp ((decide (qsg ((y).2) ((p).2)≤0))=true) ((UF.eq (.bool (decide (qsg ((p).2) ((x).2)<0)))).toSF)))::(34, .s ((UF.eq (.bool ((decide (qsg ((y).2) ((p).2)≤0))&&(decide (qsg ((p).2) ((x).2)<0))))).toSF))::(35, .s ((UF.eq (.bool ((decide (qsg ((y).2) ((p).2)≤0))&&(decide (qsg ((p).2) ((x).2)<0))))).toSF))::(36, .s (SF.imp (((decide (qsg ((y).2) ((p).2)≤0))&&(decide (qsg ((p).2) ((x).2)<0)))=true) (SF.ptr ((CU.agg (fPR (fPV m y) (fPV m x))).cf.at 0))))::(37, .s (SF.imp (((decide (qsg ((y).2) ((p).2)≤0))&&(decide (qsg ((p).2) ((x).2)<0)))=true) ((fPV m y).toSF)))::(38, .s (SF.imp (((decide (qsg ((y).2) ((p).2)≤0))&&(decide (qsg ((p).2) ((x).2)<0)))=true) (SF.ptr ((CU.agg (fPR (fPV m y) (fPV m x))).cf.at 6))))::(39, .s (SF.imp (((decide (qsg ((y).2) ((p).2)≤0))&&(decide (qsg ((p).2) ((x).2)<0)))=true) ((fPV m x).toSF)))::(40, .s (SF.imp (((decide (qsg ((y).2) ((p).2)≤0))&&(decide (qsg ((p).2) ((x).2)<0)))=true) ((fPV m p).toSF)))::(41, .s (SF.imp (((decide (qsg ((y).2) ((p).2)≤0))&&(decide (qsg ((p).2) ((x).2)<0)))=true) ((UF.eq (.int .i64 (yM y x p))).toSF)))::(42, .s (SF.imp (((decide (qsg ((y).2) ((p).2)≤0))&&(decide (qsg ((p).2) ((x).2)<0)))=true) ((UF.eq (.bool (yM y x p==1))).toSF)))::(43, .s ((UF.eq (.bool (((decide (qsg ((y).2) ((p).2)≤0))&&(decide (qsg ((p).2) ((x).2)<0)))&&(yM y x p==1)))).toSF))::(4, .u (UF.eq (.bool (((decide (qsg ((y).2) ((p).2)≤0))&&(decide (qsg ((p).2) ((x).2)<0)))&&(yM y x p==1))))):: []) hmix s (by kernel_rfl)
   (oc (zN (C:=(CU.agg (fPR (fPV m y) (fPV m x))).cf) 0 (by kernel_rfl))<|oc (yT (C:=(CU.agg (fPR (fPV m y) (fPV m x))).cf) 0 3 (by kernel_rfl))<|oc (zX (C:=(CU.agg (fPR (fPV m y) (fPV m x))).cf) (k:=3) 3 (by kernel_rfl) (h:=zQe))<|oc (zN (C:=(CU.agg (fPV m p)).cf) 3 (by kernel_rfl))<|oc (zX (C:=(CU.agg (fPV m p)).cf) (k:=3) 3 (by kernel_rfl) (h:=zDM))<|oc (zH zD zEd (fun u0 u1 W hb (h0:RVp m ((y).2) u0 W) (h1:RVp m ((p).2) u1 W)=>zD5 h0 h1 (by omega) hm0 (hT.below (s.up hb))))<|oc (zQ .i64 (qsg ((y).2) ((p).2)) 0 (decide (qsg ((y).2) ((p).2)≤0)) iiz iiz rfl rfl)<|oc zC<|oc (zF 26 (decide (qsg ((y).2) ((p).2)≤0)) (by kernel_rfl) iiz (fun e=>zR [] (SF.ptr ((CU.agg (fPV m p)).cf.at 3)) fnz (fun _ _ h _=>h) (by kernel_rfl) (zN (C:=(CU.agg (fPV m p)).cf) 3 (by kernel_rfl))) (fun e W h=>absurd h e))<|oc (zF 26 (decide (qsg ((y).2) ((p).2)≤0)) (by kernel_rfl) iiz (fun e=>zR [(27,SF.ptr ((CU.agg (fPV m p)).cf.at 3))] ((fRV m ((p).2)).toSF) (fmz ⟨fun v W h=>zJ (c:=(decide (qsg ((y).2) ((p).2)≤0))=true) (f:=SF.ptr ((CU.agg (fPV m p)).cf.at 3)) e h,fnz⟩) (fun _ _ h _=>h) (by kernel_rfl) (zX (C:=(CU.agg (fPV m p)).cf) (k:=3) 3 (by kernel_rfl) (h:=zDM))) (fun e W h=>absurd h e))<|oc (zF 26 (decide (qsg ((y).2) ((p).2)≤0)) (by kernel_rfl) iiz (fun e=>zR [] (SF.ptr ((CU.agg (fPR (fPV m y) (fPV m x))).cf.at 6)) fnz (fun _ _ h _=>h) (by kernel_rfl) (zN (C:=(CU.agg (fPR (fPV m y) (fPV m x))).cf) 6 (by kernel_rfl))) (fun e W h=>absurd h e))<|oc (zF 26 (decide (qsg ((y).2) ((p).2)≤0)) (by kernel_rfl) iiz (fun e=>zR [(29,SF.ptr ((CU.agg (fPR (fPV m y) (fPV m x))).cf.at 6))] (SF.ptr ((CU.agg (fPR (fPV m y) (fPV m x))).cf.at 9)) (fmz ⟨fun v W h=>zJ (c:=(decide (qsg ((y).2) ((p).2)≤0))=true) (f:=SF.ptr ((CU.agg (fPR (fPV m y) (fPV m x))).cf.at 6)) e h,fnz⟩) (fun _ _ h _=>h) (by kernel_rfl) (yT (C:=(CU.agg (fPR (fPV m y) (fPV m x))).cf) 6 3 (by kernel_rfl))) (fun e W h=>absurd h e))<|oc (zF 26 (decide (qsg ((y).2) ((p).2)≤0)) (by kernel_rfl) iiz (fun e=>zR [(30,SF.ptr ((CU.agg (fPR (fPV m y) (fPV m x))).cf.at 9))] ((fRV m ((x).2)).toSF) (fmz ⟨fun v W h=>zJ (c:=(decide (qsg ((y).2) ((p).2)≤0))=true) (f:=SF.ptr ((CU.agg (fPR (fPV m y) (fPV m x))).cf.at 9)) e h,fnz⟩) (fun _ _ h _=>h) (by kernel_rfl) (zX (C:=(CU.agg (fPR (fPV m y) (fPV m x))).cf) (k:=9) 3 (by kernel_rfl) (h:=zQd))) (fun e W h=>absurd h e))<|oc (zF 26 (decide (qsg ((y).2) ((p).2)≤0)) (by kernel_rfl) iiz (fun e=>zR [(28,(fRV m ((p).2)).toSF),(31,(fRV m ((x).2)).toSF)] ((UF.eq (.int .i64 (qsg ((p).2) ((x).2)))).toSF) (fmz ⟨fun v W h=>zJ (c:=(decide (qsg ((y).2) ((p).2)≤0))=true) (f:=(fRV m ((p).2)).toSF) e h,fmz ⟨fun v W h=>zJ (c:=(decide (qsg ((y).2) ((p).2)≤0))=true) (f:=(fRV m ((x).2)).toSF) e h,fnz⟩⟩) (fun _ _ h _=>h) (by kernel_rfl) (zH zD zEd (fun u0 u1 W hb (h0:RVp m ((p).2) u0 W) (h1:RVp m ((x).2) u1 W)=>zD5 h0 h1 (by omega) hm0 (hT.below (s.up hb))))) (fun e W h=>absurd h e))<|oc (zF 26 (decide (qsg ((y).2) ((p).2)≤0)) (by kernel_rfl) iiz (fun e=>zR [(32,(UF.eq (.int .i64 (qsg ((p).2) ((x).2)))).toSF)] ((UF.eq (.bool (decide (qsg ((p).2) ((x).2)<0)))).toSF) (fmz ⟨fun v W h=>zJ (c:=(decide (qsg ((y).2) ((p).2)≤0))=true) (f:=(UF.eq (.int .i64 (qsg ((p).2) ((x).2)))).toSF) e h,fnz⟩) (fun _ _ h _=>h) (by kernel_rfl) (zQ .i64 (qsg ((p).2) ((x).2)) 0 (decide (qsg ((p).2) ((x).2)<0)) iiz iiz rfl rfl)) (fun e W h=>absurd h e))<|oc (yF (decide (qsg ((y).2) ((p).2)≤0)) iiz (fun e v W h=>jQ (zJ e h) e) (fun e v W h=>qY h e))<|oc zC<|oc (zF 35 ((decide (qsg ((y).2) ((p).2)≤0))&&(decide (qsg ((p).2) ((x).2)<0))) (by kernel_rfl) iiz (fun e=>zR [] (SF.ptr ((CU.agg (fPR (fPV m y) (fPV m x))).cf.at 0)) fnz (fun _ _ h _=>h) (by kernel_rfl) (zN (C:=(CU.agg (fPR (fPV m y) (fPV m x))).cf) 0 (by kernel_rfl))) (fun e W h=>absurd h e))<|oc (zF 35 ((decide (qsg ((y).2) ((p).2)≤0))&&(decide (qsg ((p).2) ((x).2)<0))) (by kernel_rfl) iiz (fun e=>zR [(36,SF.ptr ((CU.agg (fPR (fPV m y) (fPV m x))).cf.at 0))] ((fPV m y).toSF) (fmz ⟨fun v W h=>zJ (c:=((decide (qsg ((y).2) ((p).2)≤0))&&(decide (qsg ((p).2) ((x).2)<0)))=true) (f:=SF.ptr ((CU.agg (fPR (fPV m y) (fPV m x))).cf.at 0)) e h,fnz⟩) (fun _ _ h _=>h) (by kernel_rfl) (zX (C:=(CU.agg (fPR (fPV m y) (fPV m x))).cf) (k:=0) 6 (by kernel_rfl) (h:=zIX))) (fun e W h=>absurd h e))<|oc (zF 35 ((decide (qsg ((y).2) ((p).2)≤0))&&(decide (qsg ((p).2) ((x).2)<0))) (by kernel_rfl) iiz (fun e=>zR [] (SF.ptr ((CU.agg (fPR (fPV m y) (fPV m x))).cf.at 6)) fnz (fun _ _ h _=>h) (by kernel_rfl) (zN (C:=(CU.agg (fPR (fPV m y) (fPV m x))).cf) 6 (by kernel_rfl))) (fun e W h=>absurd h e))<|oc (zF 35 ((decide (qsg ((y).2) ((p).2)≤0))&&(decide (qsg ((p).2) ((x).2)<0))) (by kernel_rfl) iiz (fun e=>zR [(38,SF.ptr ((CU.agg (fPR (fPV m y) (fPV m x))).cf.at 6))] ((fPV m x).toSF) (fmz ⟨fun v W h=>zJ (c:=((decide (qsg ((y).2) ((p).2)≤0))&&(decide (qsg ((p).2) ((x).2)<0)))=true) (f:=SF.ptr ((CU.agg (fPR (fPV m y) (fPV m x))).cf.at 6)) e h,fnz⟩) (fun _ _ h _=>h) (by kernel_rfl) (zX (C:=(CU.agg (fPR (fPV m y) (fPV m x))).cf) (k:=6) 6 (by kernel_rfl) (h:=zIW))) (fun e W h=>absurd h e))<|oc (zF 35 ((decide (qsg ((y).2) ((p).2)≤0))&&(decide (qsg ((p).2) ((x).2)<0))) (by kernel_rfl) iiz (fun e=>zR [] ((fPV m p).toSF) fnz (fun _ _ h _=>h) (by kernel_rfl) (zK (f:=fPV m p) 6 (by kernel_rfl) (hz:=zP _ _))) (fun e W h=>absurd h e))<|oc (zF 35 ((decide (qsg ((y).2) ((p).2)≤0))&&(decide (qsg ((p).2) ((x).2)<0))) (by kernel_rfl) iiz (fun e=>zR [(37,(fPV m y).toSF),(39,(fPV m x).toSF),(40,(fPV m p).toSF)] ((UF.eq (.int .i64 (yM y x p))).toSF) (fmz ⟨fun v W h=>zJ (c:=((decide (qsg ((y).2) ((p).2)≤0))&&(decide (qsg ((p).2) ((x).2)<0)))=true) (f:=(fPV m y).toSF) e h,fmz ⟨fun v W h=>zJ (c:=((decide (qsg ((y).2) ((p).2)≤0))&&(decide (qsg ((p).2) ((x).2)<0)))=true) (f:=(fPV m x).toSF) e h,fmz ⟨fun v W h=>zJ (c:=((decide (qsg ((y).2) ((p).2)≤0))&&(decide (qsg ((p).2) ((x).2)<0)))=true) (f:=(fPV m p).toSF) e h,fnz⟩⟩⟩) (fun _ _ h _=>h) (by kernel_rfl) (jZ zD zQG (fun u0 u1 u2 W hb (h0:(fPV m y).p u0 W) (h1:(fPV m x).p u1 W) (h2:(fPV m p).p u2 W)=>zHE h0 h1 h2 hm hm0 (hT.below (s.up hb))))) (fun e W h=>absurd h e))<|oc (zF 35 ((decide (qsg ((y).2) ((p).2)≤0))&&(decide (qsg ((p).2) ((x).2)<0))) (by kernel_rfl) iiz (fun e=>zR [(41,(UF.eq (.int .i64 (yM y x p))).toSF)] ((UF.eq (.bool (yM y x p==1))).toSF) (fmz ⟨fun v W h=>zJ (c:=((decide (qsg ((y).2) ((p).2)≤0))&&(decide (qsg ((p).2) ((x).2)<0)))=true) (f:=(UF.eq (.int .i64 (yM y x p))).toSF) e h,fnz⟩) (fun _ _ h _=>h) (by kernel_rfl) (zQ .i64 (yM y x p) 1 (yM y x p==1) iiz iiz rfl rfl)) (fun e W h=>absurd h e))<|oc (yF ((decide (qsg ((y).2) ((p).2)≤0))&&(decide (qsg ((p).2) ((x).2)<0))) iiz (fun e v W h=>jQ (zJ e h) e) (fun e v W h=>qY h e))<|oc zG<|zE) fun a w4 s=> ?_
  refine zA rfl ?_
  refine wpIn_ret ?_
  exact StS.res1 s (t:=4) rfl (fun v W h=>by rw [zOl e];exact h)
 ·refine wpIn_skip ?_
  refine wpIn_seq ?_
  replace s:=s.drop [4]
  refine zB 26 ((19, .s (SF.ptr ((CU.agg (fPR (fPV m x) (fPV m y))).cf.at 0)))::(20, .s (SF.ptr ((CU.agg (fPR (fPV m x) (fPV m y))).cf.at 3)))::(21, .s ((fRV m ((x).2)).toSF))::(22, .s (SF.ptr ((CU.agg (fPV m p)).cf.at 3)))::(23, .s ((fRV m ((p).2)).toSF))::(24, .s ((UF.eq (.int .i64 (qsg ((x).2) ((p).2)))).toSF))::(25, .s ((UF.eq (.bool (decide (qsg ((x).2) ((p).2)≤0)))).toSF))::(26, .s ((UF.eq (.bool (decide (qsg ((x).2) ((p).2)≤0)))).toSF))::(27, .s (SF.imp ((decide (qsg ((x).2) ((p).2)≤0))=true) (SF.ptr ((CU.agg (fPV m p)).cf.at 3))))::(28, .s (SF.imp ((decide (qsg ((x).2) ((p).2)≤0))=true) ((fRV m ((p).2)).toSF)))::(29, .s (SF.imp ((decide (qsg ((x).2) ((p).2)≤0))=true) (SF.ptr ((CU.agg (fPR (fPV m x) (fPV m y))).cf.at 6))))::(30, .s (SF.imp ((decide (qsg ((x).2) ((p).2)≤0))=true) (SF.ptr ((CU.agg (fPR (fPV m x) (fPV m y))).cf.at 9))))::(31, .s (SF.imp ((decide (qsg ((x).2) ((p).2)≤0))=true) ((fRV m ((y).2)).toSF)))::(32, .s (SF.imp ((decide (qsg ((x).2) ((p).2)≤0))=true) ((UF.eq (.int .i64 (qsg ((p).2) ((y).2)))).toSF)))::(33, .s (SF.imp ((decide (qsg ((x).2) ((p).2)≤0))=true) ((UF.eq (.bool (decide (qsg ((p).2) ((y).2)<0)))).toSF)))::(34, .s ((UF.eq (.bool ((decide (qsg ((x).2) ((p).2)≤0))&&(decide (qsg ((p).2) ((y).2)<0))))).toSF))::(35, .s ((UF.eq (.bool ((decide (qsg ((x).2) ((p).2)≤0))&&(decide (qsg ((p).2) ((y).2)<0))))).toSF))::(36, .s (SF.imp (((decide (qsg ((x).2) ((p).2)≤0))&&(decide (qsg ((p).2) ((y).2)<0)))=true) (SF.ptr ((CU.agg (fPR (fPV m x) (fPV m y))).cf.at 0))))::(37, .s (SF.imp (((decide (qsg ((x).2) ((p).2)≤0))&&(decide (qsg ((p).2) ((y).2)<0)))=true) ((fPV m x).toSF)))::(38, .s (SF.imp (((decide (qsg ((x).2) ((p).2)≤0))&&(decide (qsg ((p).2) ((y).2)<0)))=true) (SF.ptr ((CU.agg (fPR (fPV m x) (fPV m y))).cf.at 6))))::(39, .s (SF.imp (((decide (qsg ((x).2) ((p).2)≤0))&&(decide (qsg ((p).2) ((y).2)<0)))=true) ((fPV m y).toSF)))::(40, .s (SF.imp (((decide (qsg ((x).2) ((p).2)≤0))&&(decide (qsg ((p).2) ((y).2)<0)))=true) ((fPV m p).toSF)))::(41, .s (SF.imp (((decide (qsg ((x).2) ((p).2)≤0))&&(decide (qsg ((p).2) ((y).2)<0)))=true) ((UF.eq (.int .i64 (yM x y p))).toSF)))::(42, .s (SF.imp (((decide (qsg ((x).2) ((p).2)≤0))&&(decide (qsg ((p).2) ((y).2)<0)))=true) ((UF.eq (.bool (yM x y p==1))).toSF)))::(43, .s ((UF.eq (.bool (((decide (qsg ((x).2) ((p).2)≤0))&&(decide (qsg ((p).2) ((y).2)<0)))&&(yM x y p==1)))).toSF))::(4, .u (UF.eq (.bool (((decide (qsg ((x).2) ((p).2)≤0))&&(decide (qsg ((p).2) ((y).2)<0)))&&(yM x y p==1))))):: []) hmix s (by kernel_rfl)
   (oc (zN (C:=(CU.agg (fPR (fPV m x) (fPV m y))).cf) 0 (by kernel_rfl))<|oc (yT (C:=(CU.agg (fPR (fPV m x) (fPV m y))).cf) 0 3 (by kernel_rfl))<|oc (zX (C:=(CU.agg (fPR (fPV m x) (fPV m y))).cf) (k:=3) 3 (by kernel_rfl) (h:=zQe))<|oc (zN (C:=(CU.agg (fPV m p)).cf) 3 (by kernel_rfl))<|oc (zX (C:=(CU.agg (fPV m p)).cf) (k:=3) 3 (by kernel_rfl) (h:=zDM))<|oc (zH zD zEd (fun u0 u1 W hb (h0:RVp m ((x).2) u0 W) (h1:RVp m ((p).2) u1 W)=>zD5 h0 h1 (by omega) hm0 (hT.below (s.up hb))))<|oc (zQ .i64 (qsg ((x).2) ((p).2)) 0 (decide (qsg ((x).2) ((p).2)≤0)) iiz iiz rfl rfl)<|oc zC<|oc (zF 26 (decide (qsg ((x).2) ((p).2)≤0)) (by kernel_rfl) iiz (fun e=>zR [] (SF.ptr ((CU.agg (fPV m p)).cf.at 3)) fnz (fun _ _ h _=>h) (by kernel_rfl) (zN (C:=(CU.agg (fPV m p)).cf) 3 (by kernel_rfl))) (fun e W h=>absurd h e))<|oc (zF 26 (decide (qsg ((x).2) ((p).2)≤0)) (by kernel_rfl) iiz (fun e=>zR [(27,SF.ptr ((CU.agg (fPV m p)).cf.at 3))] ((fRV m ((p).2)).toSF) (fmz ⟨fun v W h=>zJ (c:=(decide (qsg ((x).2) ((p).2)≤0))=true) (f:=SF.ptr ((CU.agg (fPV m p)).cf.at 3)) e h,fnz⟩) (fun _ _ h _=>h) (by kernel_rfl) (zX (C:=(CU.agg (fPV m p)).cf) (k:=3) 3 (by kernel_rfl) (h:=zDM))) (fun e W h=>absurd h e))<|oc (zF 26 (decide (qsg ((x).2) ((p).2)≤0)) (by kernel_rfl) iiz (fun e=>zR [] (SF.ptr ((CU.agg (fPR (fPV m x) (fPV m y))).cf.at 6)) fnz (fun _ _ h _=>h) (by kernel_rfl) (zN (C:=(CU.agg (fPR (fPV m x) (fPV m y))).cf) 6 (by kernel_rfl))) (fun e W h=>absurd h e))<|oc (zF 26 (decide (qsg ((x).2) ((p).2)≤0)) (by kernel_rfl) iiz (fun e=>zR [(29,SF.ptr ((CU.agg (fPR (fPV m x) (fPV m y))).cf.at 6))] (SF.ptr ((CU.agg (fPR (fPV m x) (fPV m y))).cf.at 9)) (fmz ⟨fun v W h=>zJ (c:=(decide (qsg ((x).2) ((p).2)≤0))=true) (f:=SF.ptr ((CU.agg (fPR (fPV m x) (fPV m y))).cf.at 6)) e h,fnz⟩) (fun _ _ h _=>h) (by kernel_rfl) (yT (C:=(CU.agg (fPR (fPV m x) (fPV m y))).cf) 6 3 (by kernel_rfl))) (fun e W h=>absurd h e))<|oc (zF 26 (decide (qsg ((x).2) ((p).2)≤0)) (by kernel_rfl) iiz (fun e=>zR [(30,SF.ptr ((CU.agg (fPR (fPV m x) (fPV m y))).cf.at 9))] ((fRV m ((y).2)).toSF) (fmz ⟨fun v W h=>zJ (c:=(decide (qsg ((x).2) ((p).2)≤0))=true) (f:=SF.ptr ((CU.agg (fPR (fPV m x) (fPV m y))).cf.at 9)) e h,fnz⟩) (fun _ _ h _=>h) (by kernel_rfl) (zX (C:=(CU.agg (fPR (fPV m x) (fPV m y))).cf) (k:=9) 3 (by kernel_rfl) (h:=zQd))) (fun e W h=>absurd h e))<|oc (zF 26 (decide (qsg ((x).2) ((p).2)≤0)) (by kernel_rfl) iiz (fun e=>zR [(28,(fRV m ((p).2)).toSF),(31,(fRV m ((y).2)).toSF)] ((UF.eq (.int .i64 (qsg ((p).2) ((y).2)))).toSF) (fmz ⟨fun v W h=>zJ (c:=(decide (qsg ((x).2) ((p).2)≤0))=true) (f:=(fRV m ((p).2)).toSF) e h,fmz ⟨fun v W h=>zJ (c:=(decide (qsg ((x).2) ((p).2)≤0))=true) (f:=(fRV m ((y).2)).toSF) e h,fnz⟩⟩) (fun _ _ h _=>h) (by kernel_rfl) (zH zD zEd (fun u0 u1 W hb (h0:RVp m ((p).2) u0 W) (h1:RVp m ((y).2) u1 W)=>zD5 h0 h1 (by omega) hm0 (hT.below (s.up hb))))) (fun e W h=>absurd h e))<|oc (zF 26 (decide (qsg ((x).2) ((p).2)≤0)) (by kernel_rfl) iiz (fun e=>zR [(32,(UF.eq (.int .i64 (qsg ((p).2) ((y).2)))).toSF)] ((UF.eq (.bool (decide (qsg ((p).2) ((y).2)<0)))).toSF) (fmz ⟨fun v W h=>zJ (c:=(decide (qsg ((x).2) ((p).2)≤0))=true) (f:=(UF.eq (.int .i64 (qsg ((p).2) ((y).2)))).toSF) e h,fnz⟩) (fun _ _ h _=>h) (by kernel_rfl) (zQ .i64 (qsg ((p).2) ((y).2)) 0 (decide (qsg ((p).2) ((y).2)<0)) iiz iiz rfl rfl)) (fun e W h=>absurd h e))<|oc (yF (decide (qsg ((x).2) ((p).2)≤0)) iiz (fun e v W h=>jQ (zJ e h) e) (fun e v W h=>qY h e))<|oc zC<|oc (zF 35 ((decide (qsg ((x).2) ((p).2)≤0))&&(decide (qsg ((p).2) ((y).2)<0))) (by kernel_rfl) iiz (fun e=>zR [] (SF.ptr ((CU.agg (fPR (fPV m x) (fPV m y))).cf.at 0)) fnz (fun _ _ h _=>h) (by kernel_rfl) (zN (C:=(CU.agg (fPR (fPV m x) (fPV m y))).cf) 0 (by kernel_rfl))) (fun e W h=>absurd h e))<|oc (zF 35 ((decide (qsg ((x).2) ((p).2)≤0))&&(decide (qsg ((p).2) ((y).2)<0))) (by kernel_rfl) iiz (fun e=>zR [(36,SF.ptr ((CU.agg (fPR (fPV m x) (fPV m y))).cf.at 0))] ((fPV m x).toSF) (fmz ⟨fun v W h=>zJ (c:=((decide (qsg ((x).2) ((p).2)≤0))&&(decide (qsg ((p).2) ((y).2)<0)))=true) (f:=SF.ptr ((CU.agg (fPR (fPV m x) (fPV m y))).cf.at 0)) e h,fnz⟩) (fun _ _ h _=>h) (by kernel_rfl) (zX (C:=(CU.agg (fPR (fPV m x) (fPV m y))).cf) (k:=0) 6 (by kernel_rfl) (h:=zIX))) (fun e W h=>absurd h e))<|oc (zF 35 ((decide (qsg ((x).2) ((p).2)≤0))&&(decide (qsg ((p).2) ((y).2)<0))) (by kernel_rfl) iiz (fun e=>zR [] (SF.ptr ((CU.agg (fPR (fPV m x) (fPV m y))).cf.at 6)) fnz (fun _ _ h _=>h) (by kernel_rfl) (zN (C:=(CU.agg (fPR (fPV m x) (fPV m y))).cf) 6 (by kernel_rfl))) (fun e W h=>absurd h e))<|oc (zF 35 ((decide (qsg ((x).2) ((p).2)≤0))&&(decide (qsg ((p).2) ((y).2)<0))) (by kernel_rfl) iiz (fun e=>zR [(38,SF.ptr ((CU.agg (fPR (fPV m x) (fPV m y))).cf.at 6))] ((fPV m y).toSF) (fmz ⟨fun v W h=>zJ (c:=((decide (qsg ((x).2) ((p).2)≤0))&&(decide (qsg ((p).2) ((y).2)<0)))=true) (f:=SF.ptr ((CU.agg (fPR (fPV m x) (fPV m y))).cf.at 6)) e h,fnz⟩) (fun _ _ h _=>h) (by kernel_rfl) (zX (C:=(CU.agg (fPR (fPV m x) (fPV m y))).cf) (k:=6) 6 (by kernel_rfl) (h:=zIW))) (fun e W h=>absurd h e))<|oc (zF 35 ((decide (qsg ((x).2) ((p).2)≤0))&&(decide (qsg ((p).2) ((y).2)<0))) (by kernel_rfl) iiz (fun e=>zR [] ((fPV m p).toSF) fnz (fun _ _ h _=>h) (by kernel_rfl) (zK (f:=fPV m p) 6 (by kernel_rfl) (hz:=zP _ _))) (fun e W h=>absurd h e))<|oc (zF 35 ((decide (qsg ((x).2) ((p).2)≤0))&&(decide (qsg ((p).2) ((y).2)<0))) (by kernel_rfl) iiz (fun e=>zR [(37,(fPV m x).toSF),(39,(fPV m y).toSF),(40,(fPV m p).toSF)] ((UF.eq (.int .i64 (yM x y p))).toSF) (fmz ⟨fun v W h=>zJ (c:=((decide (qsg ((x).2) ((p).2)≤0))&&(decide (qsg ((p).2) ((y).2)<0)))=true) (f:=(fPV m x).toSF) e h,fmz ⟨fun v W h=>zJ (c:=((decide (qsg ((x).2) ((p).2)≤0))&&(decide (qsg ((p).2) ((y).2)<0)))=true) (f:=(fPV m y).toSF) e h,fmz ⟨fun v W h=>zJ (c:=((decide (qsg ((x).2) ((p).2)≤0))&&(decide (qsg ((p).2) ((y).2)<0)))=true) (f:=(fPV m p).toSF) e h,fnz⟩⟩⟩) (fun _ _ h _=>h) (by kernel_rfl) (jZ zD zQG (fun u0 u1 u2 W hb (h0:(fPV m x).p u0 W) (h1:(fPV m y).p u1 W) (h2:(fPV m p).p u2 W)=>zHE h0 h1 h2 hm hm0 (hT.below (s.up hb))))) (fun e W h=>absurd h e))<|oc (zF 35 ((decide (qsg ((x).2) ((p).2)≤0))&&(decide (qsg ((p).2) ((y).2)<0))) (by kernel_rfl) iiz (fun e=>zR [(41,(UF.eq (.int .i64 (yM x y p))).toSF)] ((UF.eq (.bool (yM x y p==1))).toSF) (fmz ⟨fun v W h=>zJ (c:=((decide (qsg ((x).2) ((p).2)≤0))&&(decide (qsg ((p).2) ((y).2)<0)))=true) (f:=(UF.eq (.int .i64 (yM x y p))).toSF) e h,fnz⟩) (fun _ _ h _=>h) (by kernel_rfl) (zQ .i64 (yM x y p) 1 (yM x y p==1) iiz iiz rfl rfl)) (fun e W h=>absurd h e))<|oc (yF ((decide (qsg ((x).2) ((p).2)≤0))&&(decide (qsg ((p).2) ((y).2)<0))) iiz (fun e v W h=>jQ (zJ e h) e) (fun e v W h=>qY h e))<|oc zG<|zE) fun a w5 s=> ?_
  refine zA rfl ?_
  refine wpIn_ret ?_
  exact StS.res1 s (t:=4) rfl (fun v W h=>by rw [zOm e];exact h)
theorem zRT {m:Nat} {W:World} {u l:Value} {p:V2} {ps:List V2} (h1:(fPV m p).p u W) (hl:(SF.row 6 (pvs m ps)).p l W) (hm:m≤159) (hm0:0<m) (hn:ps.length≤1000000) (hT:Tab W):Calls Tryz.prog 78 #[u,l] W (Ret W (fI (onI ps p)).toSF):=by
 refine zKO [(fPV m p).toSF,(UF.eq l).toSF] Tryz.func78 rfl (by kernel_rfl) ⟨h1,rfl,trivial⟩ fun a s=> ?_
 replace s:=s.renew [(0, .u (fPV m p)),(1, .u (UF.eq l))] (fmz ⟨.inr ⟨_,rfl, .head _⟩,fmz ⟨.inr ⟨_,rfl,mz1⟩,fnz⟩⟩)
 refine wpIn_seq ?_
 refine zB 0 [] hmix s (by kernel_rfl)
  zE fun a w1 s=> ?_
 refine yJ (CU.agg (fPV m p)) rfl s (by kernel_rfl) (fun v W h=>yP h) fun b2 a w s=> ?_
 refine yU (UF.eq (.int .i64 0)) rfl s (by kernel_rfl) iiz fun a w s=> ?_
 refine zA rfl ?_
 refine (wpIn_wide (n:=0)).2 (wp_scope_straight ((wpIn_wide (n:=0)).1 ?_))
 refine wpIn_seq ?_
 refine zB 0 [] hmix s (by kernel_rfl)
  zE fun a w2 s=> ?_
 refine zY (CU.len 1) (cs:= [.int .i64 0]) (by kernel_rfl) rfl s (by kernel_rfl) (fun W=>rfl) rfl fun b5 a w s=> ?_
 refine jP (c:=5) (o:=0) (kk:=1) (CU.isP (.int .i64 (-1)) True) ((UF.eq (.int .i64 (-1))).toSF) rfl s (by kernel_rfl) rfl rfl (fun _ _ h=>h.1) iiz (zIz fun cs W h=>⟨h,trivial⟩) fun a w s=> ?_
 refine zA rfl ?_
 refine wpIn_seq ?_
 refine wpIn_label ?_
 refine wpIn_seq ?_
 refine wpIn_seq ?_
 have soc:=s.old
 have o5:b5<_:=soc _ (.head _)
 have o2:b2<_:=soc _ mz1
 refine jW 2 ((8, .s ((UF.eq l).toSF))::(9, .s (zMj w 153 22 (CU.is [l]))):: []) hmix s (by kernel_rfl)
  (oc zC<|oc (zI zD zPb (fun u0 W hb (h0:u0=l)=>by rw [show u0=l from h0];exact (zJh (zBK hl)).mono (Ret.to (zHg hb.size))))<|zE) fun a w3 s hr=> ?_
 refine zA rfl ?_
 refine wpIn_block ?_
 obtain ⟨bc,csc,ec,hbc,hhc,hcc,hnc⟩:=hr (_,_) mz1
 obtain rfl:csc= [l]:=hcc
 replace s:=(s.keepK [(1, .u (UF.eq l))] (fmz ⟨mz2,fnz⟩)).learn 9 _ ec
 replace s:StS noS W _ [⟨5,3,CU.isP (.int .i64 (-1)) (zDR (onK ps p) 0),b5,false⟩,⟨2,30,CU.agg (fPV m p),b2,false⟩] Tryz.f78.ntmps _ a w3:=s.weakB 5 (CU.isP (.int .i64 (-1)) (zDR (onK ps p) 0)) rfl (zAC (by kernel_rfl)) (fun cs W h=>⟨h.1,fun j hj=>absurd hj (Nat.not_lt_zero _)⟩)
 have hCn: ∀q,inB ([⟨5,3,CU.isP (.int .i64 (-1)) (zDR (onK ps p) 0),b5,false⟩,⟨2,30,CU.agg (fPV m p),b2,false⟩]) q→W.heap.size≤q:=fun q hq=>s.inB_new hq
 have hCl: ∀q,inB ([⟨5,3,CU.isP (.int .i64 (-1)) (zDR (onK ps p) 0),b5,false⟩,⟨2,30,CU.agg (fPV m p),b2,false⟩]) q→q<w3.heap.size:=fun q ⟨z9,hz9,e9,_⟩=>e9▸s.old z9 hz9
 refine zIw (N:=nE ps) (endless:=False) (fun k=> [⟨5,3,CU.isP (.int .i64 (-1)) (zDR (onK ps p) k),b5,false⟩,⟨2,30,CU.agg (fPV m p),b2,false⟩]) ([⟨5,3,CU.isP (.int .i64 (onI ps p)) True,b5,false⟩,⟨2,30,CU.agg (fPV m p),b2,false⟩]) (.exit 0) (fun k=> [(10, .u (UF.eq (.int .i64 ((k:Nat):Int)))),(11, .u (fPR (fPV m (at_ ps k)) (fPV m (at_ ps ((k+1) % ps.length)))))]) s iiz (enters_of Tryz.func153 (by kernel_rfl) rfl) (zHe (w0:=W) hhc hl s.below hCl hCn (fun ⟨z9,hz9,e9,_⟩=>by simp only [List.mem_cons,List.not_mem_nil,or_false] at hz9;rcases hz9 with rfl|rfl<;>(simp only at e9;omega)) hn) (fun k=>rfl) ?_ rfl rfl rfl (fun k=>rfl) rfl (fun h=>h.elim) (fun l_ k xs WR hk so s=> ?_) (fun _ D WD s=> ?_) (fun D WD s=> ?_)
 ·intro k q hq
  rcases List.mem_cons.1 hq with rfl|hq
  ·exact .inr ⟨0,_,rfl,rfl,rfl⟩
  obtain rfl:=List.mem_singleton.1 hq
  exact .inr ⟨1,_,rfl,rfl,rfl⟩
 ·have hLR:Lo W WR:=zJa so.below
  have hWR:=so.gr.size
  have hSq: ∀q,(inB ([⟨5,3,CU.isP (.int .i64 (-1)) (zDR (onK ps p) 0),b5,false⟩,⟨2,30,CU.agg (fPV m p),b2,false⟩]) q∨WR.heap.size≤q)→W.heap.size≤q:=fun q hq=>by rcases hq with hq|hq;exact hCn q hq;omega
  generalize ({ tmps:=_,defers:= [] }:Act)=a at s ⊢
  refine wpIn_seq ?_
  refine zB 1 ((6, .u (UF.eq (.int .i64 ((k:Nat):Int)))):: []) hmix s (by kernel_rfl)
   (oc zG<|zE) fun a w4 s=> ?_
  refine zA rfl ?_
  refine zB 0 [] hmix s (by kernel_rfl)
   zE fun a w5 s=> ?_
  refine zY (CU.len 12) (cs:= [.bool false, .slice none 0 0, .slice none 0 0, .bool false, .slice none 0 0, .slice none 0 0, .bool false, .slice none 0 0, .slice none 0 0, .bool false, .slice none 0 0, .slice none 0 0]) (by kernel_rfl) rfl s (by kernel_rfl) (fun W=>rfl) rfl fun b7 a w s=> ?_
  refine zV (CU.agg (fPR (fPV m (at_ ps k)) (fPV m (at_ ps ((k+1) % ps.length))))) ((fPR (fPV m (at_ ps k)) (fPV m (at_ ps ((k+1) % ps.length)))).toSF) rfl s (by kernel_rfl) rfl rfl rfl iiz iiz zIV fun a w s=> ?_
  refine zA rfl ?_
  refine ⟨s.gr,fun W2 hcell hW2=> ?_⟩
  have hL2:Lo W W2:=(zI9 hLR s.gr hWR hSq).trans fun p _=>hcell p
  obtain ⟨_,_,h9c,_⟩:=s.bx.mem _ (.head _)
  have hb9:W.heap.size≤b7:=by rcases h9c with h|h|h;cases h;exact Nat.le_trans hWR h;exact hSq _ h
  replace s:=hW2 _ _ s
  have h9l:b7<W2.heap.size:=s.old _ (.head _)
  have hW2s:W.heap.size≤W2.heap.size:=by omega
  have hlo: ∀{w w':World},BlS (fun q=>inB ([⟨5,3,CU.isP (.int .i64 (-1)) (zDR (onK ps p) 0),b5,false⟩,⟨2,30,CU.agg (fPV m p),b2,false⟩]) q∨WR.heap.size≤q) W2 w→Below w.heap.size w w'→Lo W w':=fun h1 h2=>(zI9 hL2 h1 hW2s hSq).trans fun p hp=>h2.cell (Nat.lt_of_lt_of_le hp (Nat.le_trans hW2s h1.size))
  refine wpIn_block ?_
  refine wpIn_seq ?_
  refine zB 6 ((12, .s (SF.ptr ((CU.agg (fPR (fPV m (at_ ps k)) (fPV m (at_ ps ((k+1) % ps.length))))).cf.at 0)))::(13, .s ((fPV m (at_ ps k)).toSF))::(14, .s (SF.ptr ((CU.agg (fPR (fPV m (at_ ps k)) (fPV m (at_ ps ((k+1) % ps.length))))).cf.at 6)))::(15, .s ((fPV m (at_ ps ((k+1) % ps.length))).toSF))::(16, .s ((fPV m p).toSF))::(17, .u (UF.eq (.bool (onK ps p k)))):: []) hmix s (by kernel_rfl)
   (oc (zN (C:=(CU.agg (fPR (fPV m (at_ ps k)) (fPV m (at_ ps ((k+1) % ps.length))))).cf) 0 (by kernel_rfl))<|oc (zX (C:=(CU.agg (fPR (fPV m (at_ ps k)) (fPV m (at_ ps ((k+1) % ps.length))))).cf) (k:=0) 6 (by kernel_rfl) (h:=zIX))<|oc (zN (C:=(CU.agg (fPR (fPV m (at_ ps k)) (fPV m (at_ ps ((k+1) % ps.length))))).cf) 6 (by kernel_rfl))<|oc (zX (C:=(CU.agg (fPR (fPV m (at_ ps k)) (fPV m (at_ ps ((k+1) % ps.length))))).cf) (k:=6) 6 (by kernel_rfl) (h:=zIW))<|oc (zK (f:=fPV m p) 6 (by kernel_rfl) (hz:=zP _ _))<|oc (jZ zD zSy (fun u0 u1 u2 W hb (h0:(fPV m (at_ ps k)).p u0 W) (h1:(fPV m (at_ ps ((k+1) % ps.length))).p u1 W) (h2:(fPV m p).p u2 W)=>zS9 h0 h1 h2 hm hm0 (zOC hT (hlo s.gr hb))))<|zE) fun a w6 s=> ?_
  refine zA rfl ?_
  refine StS.cond s (onK ps p k) iiz (fun e=> ?_) (fun e=> ?_)
  ·refine wpIn_seq ?_
   refine zB 1 ((18, .u (UF.eq (.int .i64 ((k:Nat):Int)))):: []) hmix s (by kernel_rfl)
    (oc zC<|zE) fun a w7 s=> ?_
   refine jP (c:=5) (o:=0) (kk:=1) (CU.isP (.int .i64 ((k:Nat):Int)) (onI ps p=((k:Nat):Int))) ((UF.eq (.int .i64 ((k:Nat):Int))).toSF) rfl s (by kernel_rfl) rfl rfl (fun _ _ h=>h.1) iiz (zIz fun cs W h=>⟨by rw [h.1];rfl,zMf hk h.2 e⟩) fun a w s=> ?_
   refine zA rfl ?_
   refine wpIn_exit ?_
   replace s:=s.popB
   exact ⟨rfl,(s.keepK [] fnz).weakB 5 (CU.isP (.int .i64 (onI ps p)) True) rfl (zAC (by kernel_rfl)) (fun cs W h=>⟨by rw [h.1,h.2],trivial⟩)⟩
  ·refine wpIn_skip ?_
   replace s:=s.popB
   exact ⟨(s.keepK [] fnz).weakB 5 (CU.isP (.int .i64 (-1)) (zDR (onK ps p) (k+1))) rfl (zAC (by kernel_rfl)) (fun cs W h=>⟨h.1,zJ2 h.2 e⟩),fun h=>h.elim⟩
 ·have hans:onI ps p= -1:=by obtain ⟨_,_,h9,_⟩:=s.boxAt (c:=5) rfl;exact zIb h9.2
  generalize ({ a with defers:=mark D::a.defers }:Act)=a at s ⊢
  refine wpIn_seq ?_
  refine zB 2 ((19, .s ((UF.eq (.int .i64 (-1))).toSF))::(4, .u (UF.eq (.int .i64 (-1)))):: []) hmix s (by kernel_rfl)
   (oc (jH (C:=(CU.isP (.int .i64 (-1)) (zDR (onK ps p) (nE ps))).cf) (by kernel_rfl) (fun _ _ h=>h.2) zGe)<|oc zG<|zE) fun a w8 s=> ?_
  refine zA rfl ?_
  refine wpIn_ret ?_
  exact s.resM1 (fI (onI ps p)) (t:=4) rfl (fun v W h=>by rw [hans];exact h)
 ·generalize ({ a with defers:=mark D::a.defers }:Act)=a at s ⊢
  refine wpIn_exit ?_
  refine wpIn_seq ?_
  refine zB 2 ((19, .s ((UF.eq (.int .i64 (onI ps p))).toSF))::(4, .u (UF.eq (.int .i64 (onI ps p)))):: []) hmix s (by kernel_rfl)
   (oc (jH (C:=(CU.isP (.int .i64 (onI ps p)) True).cf) (by kernel_rfl) (fun _ _ h=>h.2) zGe)<|oc zG<|zE) fun a w9 s=> ?_
  refine zA rfl ?_
  refine wpIn_ret ?_
  exact s.resM1 (fI (onI ps p)) (t:=4) rfl (fun v W h=>h)
theorem zFx {m:Nat} {W:World} {u l:Value} {p:V2} {ps:List V2} (h1:(fPV m p).p u W) (hl:(SF.row 6 (pvs m ps)).p l W) (hm:m≤159) (hm0:0<m) (hn:ps.length≤1000000) (hT:Tab W):Calls Tryz.prog 80 #[u,l] W (Ret W (fI ((crN ps p:Nat):Int)).toSF):=by
 refine zKO [(fPV m p).toSF,(UF.eq l).toSF] Tryz.func80 rfl (by kernel_rfl) ⟨h1,rfl,trivial⟩ fun a s=> ?_
 replace s:=s.renew [(0, .u (fPV m p)),(1, .u (UF.eq l))] (fmz ⟨.inr ⟨_,rfl, .head _⟩,fmz ⟨.inr ⟨_,rfl,mz1⟩,fnz⟩⟩)
 refine wpIn_seq ?_
 refine zB 0 [] hmix s (by kernel_rfl)
  zE fun a w1 s=> ?_
 refine yJ (CU.agg (fPV m p)) rfl s (by kernel_rfl) (fun v W h=>yP h) fun b2 a w s=> ?_
 refine zY (CU.isP (.int .i64 0) True) (cs:= [.int .i64 0]) (by kernel_rfl) rfl s (by kernel_rfl) (fun W=>⟨rfl,trivial⟩) rfl fun b4 a w s=> ?_
 refine zA rfl ?_
 refine wpIn_seq ?_
 refine wpIn_seq ?_
 have soc:=s.old
 have o4:b4<_:=soc _ (.head _)
 have o2:b2<_:=soc _ mz1
 refine jW 2 ((7, .s ((UF.eq l).toSF))::(8, .s (zMj w 153 22 (CU.is [l]))):: []) hmix s (by kernel_rfl)
  (oc zC<|oc (zI zD zPb (fun u0 W hb (h0:u0=l)=>by rw [show u0=l from h0];exact (zJh (zBK hl)).mono (Ret.to (zHg hb.size))))<|zE) fun a w2 s hr=> ?_
 refine zA rfl ?_
 refine wpIn_block ?_
 obtain ⟨bc,csc,ec,hbc,hhc,hcc,hnc⟩:=hr (_,_) mz1
 obtain rfl:csc= [l]:=hcc
 replace s:=(s.keepK [(1, .u (UF.eq l))] (fmz ⟨mz1,fnz⟩)).learn 8 _ ec
 replace s:StS noS W _ [⟨4,3,CU.isP (.int .i64 ((zBa (crK ps p) 0:Nat):Int)) True,b4,false⟩,⟨2,30,CU.agg (fPV m p),b2,false⟩] Tryz.f80.ntmps _ a w2:=s.weakB 4 (CU.isP (.int .i64 ((zBa (crK ps p) 0:Nat):Int)) True) rfl (zAC (by kernel_rfl)) (fun cs W h=>h)
 have hCn: ∀q,inB ([⟨4,3,CU.isP (.int .i64 ((zBa (crK ps p) 0:Nat):Int)) True,b4,false⟩,⟨2,30,CU.agg (fPV m p),b2,false⟩]) q→W.heap.size≤q:=fun q hq=>s.inB_new hq
 have hCl: ∀q,inB ([⟨4,3,CU.isP (.int .i64 ((zBa (crK ps p) 0:Nat):Int)) True,b4,false⟩,⟨2,30,CU.agg (fPV m p),b2,false⟩]) q→q<w2.heap.size:=fun q ⟨z9,hz9,e9,_⟩=>e9▸s.old z9 hz9
 refine zIw (N:=nE ps) (endless:=False) (fun k=> [⟨4,3,CU.isP (.int .i64 ((zBa (crK ps p) k:Nat):Int)) True,b4,false⟩,⟨2,30,CU.agg (fPV m p),b2,false⟩]) ([⟨4,3,CU.isP (.int .i64 0) False,b4,false⟩,⟨2,30,CU.agg (fPV m p),b2,false⟩]) (.exit 0) (fun k=> [(10, .u (fPR (fPV m (at_ ps k)) (fPV m (at_ ps ((k+1) % ps.length)))))]) s iiz (enters_of Tryz.func153 (by kernel_rfl) rfl) (zHe (w0:=W) hhc hl s.below hCl hCn (fun ⟨z9,hz9,e9,_⟩=>by simp only [List.mem_cons,List.not_mem_nil,or_false] at hz9;rcases hz9 with rfl|rfl<;>(simp only at e9;omega)) hn) (fun k=>rfl) ?_ rfl rfl rfl (fun k=>rfl) rfl (fun h=>h.elim) (fun l_ k xs WR hk so s=> ?_) (fun _ D WD s=> ?_) (fun D WD s=> ?_)
 ·intro k q hq
  obtain rfl:=List.mem_singleton.1 hq
  exact .inr ⟨1,_,rfl,rfl,rfl⟩
 ·have hLR:Lo W WR:=zJa so.below
  have hWR:=so.gr.size
  have hSq: ∀q,(inB ([⟨4,3,CU.isP (.int .i64 ((zBa (crK ps p) 0:Nat):Int)) True,b4,false⟩,⟨2,30,CU.agg (fPV m p),b2,false⟩]) q∨WR.heap.size≤q)→W.heap.size≤q:=fun q hq=>by rcases hq with hq|hq;exact hCn q hq;omega
  generalize ({ tmps:=_,defers:= [] }:Act)=a at s ⊢
  refine zB 0 [] hmix s (by kernel_rfl)
   zE fun a w3 s=> ?_
  refine zY (CU.len 12) (cs:= [.bool false, .slice none 0 0, .slice none 0 0, .bool false, .slice none 0 0, .slice none 0 0, .bool false, .slice none 0 0, .slice none 0 0, .bool false, .slice none 0 0, .slice none 0 0]) (by kernel_rfl) rfl s (by kernel_rfl) (fun W=>rfl) rfl fun b6 a w s=> ?_
  refine zV (CU.agg (fPR (fPV m (at_ ps k)) (fPV m (at_ ps ((k+1) % ps.length))))) ((fPR (fPV m (at_ ps k)) (fPV m (at_ ps ((k+1) % ps.length)))).toSF) rfl s (by kernel_rfl) rfl rfl rfl iiz iiz zIV fun a w s=> ?_
  refine zA rfl ?_
  refine ⟨s.gr,fun W2 hcell hW2=> ?_⟩
  have hL2:Lo W W2:=(zI9 hLR s.gr hWR hSq).trans fun p _=>hcell p
  obtain ⟨_,_,h9c,_⟩:=s.bx.mem _ (.head _)
  have hb9:W.heap.size≤b6:=by rcases h9c with h|h|h;cases h;exact Nat.le_trans hWR h;exact hSq _ h
  replace s:=hW2 _ _ s
  have h9l:b6<W2.heap.size:=s.old _ (.head _)
  have hW2s:W.heap.size≤W2.heap.size:=by omega
  have hlo: ∀{w w':World},BlS (fun q=>inB ([⟨4,3,CU.isP (.int .i64 ((zBa (crK ps p) 0:Nat):Int)) True,b4,false⟩,⟨2,30,CU.agg (fPV m p),b2,false⟩]) q∨WR.heap.size≤q) W2 w→Below w.heap.size w w'→Lo W w':=fun h1 h2=>(zI9 hL2 h1 hW2s hSq).trans fun p hp=>h2.cell (Nat.lt_of_lt_of_le hp (Nat.le_trans hW2s h1.size))
  refine wpIn_block ?_
  refine wpIn_seq ?_
  refine zB 3 ((11, .s ((fPR (fPV m (at_ ps k)) (fPV m (at_ ps ((k+1) % ps.length)))).toSF))::(12, .s ((fPV m p).toSF))::(13, .u (UF.eq (.bool (crK ps p k)))):: []) hmix s (by kernel_rfl)
   (oc (zK (f:=fPR (fPV m (at_ ps k)) (fPV m (at_ ps ((k+1) % ps.length)))) 12 (by kernel_rfl) (hz:=zRF))<|oc (zK (f:=fPV m p) 6 (by kernel_rfl) (hz:=zP _ _))<|oc (zH zD zSx (fun u0 u1 W hb (h0:(fPR (fPV m (at_ ps k)) (fPV m (at_ ps ((k+1) % ps.length)))).p u0 W) (h1:(fPV m p).p u1 W)=>zQQ h0 h1 hm hm0 (zOC hT (hlo s.gr hb))))<|zE) fun a w4 s=> ?_
  refine zA rfl ?_
  refine StS.cond s (crK ps p k) iiz (fun e=> ?_) (fun e=> ?_)
  ·refine zB 2 ((14, .s ((UF.eq (.int .i64 ((zBa (crK ps p) k:Nat):Int))).toSF))::(15, .u (UF.eq (.int .i64 ((zBa (crK ps p) (k+1):Nat):Int)))):: []) hmix s (by kernel_rfl)
    (oc (jH (C:=(CU.isP (.int .i64 ((zBa (crK ps p) k:Nat):Int)) True).cf) (by kernel_rfl) (fun _ _ h=>h.2) zGe)<|oc (y7 .i64 ((zBa (crK ps p) k:Nat):Int) 1 ((zBa (crK ps p) (k+1):Nat):Int) iiz iiz (by rw [zSK e];exact wrap64 _ _ (by omega) (by have:=zIf (crK ps p) k;have:=zRM ps;omega)))<|zE) fun a w5 s=> ?_
   refine jP (c:=4) (o:=0) (kk:=1) (CU.isP (.int .i64 ((zBa (crK ps p) (k+1):Nat):Int)) True) ((UF.eq (.int .i64 ((zBa (crK ps p) (k+1):Nat):Int))).toSF) rfl s (by kernel_rfl) rfl rfl (fun _ _ h=>h.1) iiz (zIz fun cs W h=>⟨by rw [h.1];rfl,trivial⟩) fun a w s=> ?_
   refine zA rfl ?_
   replace s:=s.popB
   exact ⟨(s.keepK [] fnz).weakB 4 (CU.isP (.int .i64 ((zBa (crK ps p) (k+1):Nat):Int)) True) rfl (zAC (by kernel_rfl)) (fun cs W h=>h),fun h=>h.elim⟩
  ·refine wpIn_skip ?_
   replace s:=s.popB
   exact ⟨(s.keepK [] fnz).weakB 4 (CU.isP (.int .i64 ((zBa (crK ps p) (k+1):Nat):Int)) True) rfl (zAC (by kernel_rfl)) (fun cs W h=>by rw [zSL e];exact h),fun h=>h.elim⟩
 ·generalize ({ a with defers:=mark D::a.defers }:Act)=a at s ⊢
  refine wpIn_seq ?_
  refine zB 1 ((16, .u (UF.eq (.int .i64 ((zBa (crK ps p) (nE ps):Nat):Int)))):: []) hmix s (by kernel_rfl)
   (oc (jH (C:=(CU.isP (.int .i64 ((zBa (crK ps p) (nE ps):Nat):Int)) True).cf) (by kernel_rfl) (fun _ _ h=>h.2) zGe)<|zE) fun a w6 s=> ?_
  refine jP (c:=4) (o:=0) (kk:=1) (CU.isP (.int .i64 ((crN ps p:Nat):Int)) True) ((UF.eq (.int .i64 ((crN ps p:Nat):Int))).toSF) rfl s (by kernel_rfl) rfl rfl (fun _ _ h=>h.1) iiz (zIz fun cs W h=>⟨by rw [h.1];rfl,trivial⟩) fun a w s=> ?_
  refine zA rfl ?_
  refine wpIn_ret ?_
  exact s.resMP (.int .i64 ((crN ps p:Nat):Int)) rfl (by kernel_rfl) rfl rfl (fun cs W h=>h.1)
 ·obtain ⟨_,_,h9,_⟩:=s.boxAt (c:=4) rfl
  exact h9.2.elim
end Go.Proofs.Wd

namespace Go.Proofs.Wd
set_option maxRecDepth 100000
set_option maxHeartbeats 1000000
open Go.RowKit Lb
theorem zKr {ps:List V2} {p:V2} (h:decide (onI ps p≥0)=true):yD ps p=0:=if_pos (of_decide_eq_true h)
theorem zJH {ps:List V2} {p:V2} (h:decide (onI ps p≥0)=false):yD ps p=2*((crN ps p % 2:Nat):Int) - 1:=if_neg (of_decide_eq_false h)
theorem zAZ {m:Nat} {W:World} {u l:Value} {p:V2} {ps:List V2} (h1:(fPV m p).p u W) (hl:(SF.row 6 (pvs m ps)).p l W) (hm:m≤159) (hm0:0<m) (hn:ps.length≤1000000) (hT:Tab W):Calls Tryz.prog 34 #[u,l] W (Ret W (fI (yD ps p)).toSF):=by
 refine z7 [(fPV m p).toSF,(UF.eq l).toSF] Tryz.func34 rfl (by kernel_rfl) ⟨h1,rfl,trivial⟩ fun a s=> ?_
 replace s:=s.renew [(0, .u (fPV m p)),(1, .u (UF.eq l))] (fmz ⟨.inr ⟨_,rfl, .head _⟩,fmz ⟨.inr ⟨_,rfl,mz1⟩,fnz⟩⟩)
 refine wpIn_seq ?_
 refine zB 0 [] hmix s (by kernel_rfl)
  zE fun a w1 s=> ?_
 refine yJ (CU.agg (fPV m p)) rfl s (by kernel_rfl) (fun v W h=>yP h) fun b2 a w s=> ?_
 refine yU (UF.eq (.int .i64 0)) rfl s (by kernel_rfl) iiz fun a w s=> ?_
 refine zA rfl ?_
 refine wpIn_seq ?_
 refine wpIn_seq ?_
 refine zB 4 ((5, .s ((fPV m p).toSF))::(6, .s ((UF.eq l).toSF))::(7, .s ((UF.eq (.int .i64 (onI ps p))).toSF))::(8, .u (UF.eq (.bool (decide (onI ps p≥0))))):: []) hmix s (by kernel_rfl)
  (oc (zK (f:=fPV m p) 6 (by kernel_rfl) (hz:=zP _ _))<|oc zC<|oc (zH zD zR1 (fun u0 u1 W hb (h0:(fPV m p).p u0 W) (h1:u1=l)=>by rw [show u1=l from h1];exact zRT h0 ((SF.row 6 (pvs m ps)).st _ _ _ hl (s.up hb)) hm hm0 hn (hT.below (s.up hb))))<|oc (zQ .i64 (onI ps p) 0 (decide (onI ps p≥0)) iiz iiz rfl rfl)<|zE) fun a w2 s=> ?_
 refine zA rfl ?_
 refine StS.cond s (decide (onI ps p≥0)) iiz (fun e=> ?_) (fun e=> ?_)
 ·refine wpIn_seq ?_
  replace s:=s.drop [4]
  refine zB 1 ((4, .u (UF.eq (.int .i64 0))):: []) hmix s (by kernel_rfl)
   (oc zG<|zE) fun a w3 s=> ?_
  refine zA rfl ?_
  refine wpIn_ret ?_
  exact StS.res1 s (t:=4) rfl (fun v W h=>by rw [zKr e];exact h)
 ·refine wpIn_skip ?_
  refine wpIn_seq ?_
  replace s:=s.drop [4]
  refine zB 7 ((9, .s ((fPV m p).toSF))::(10, .s ((UF.eq l).toSF))::(11, .s ((UF.eq (.int .i64 ((crN ps p:Nat):Int))).toSF))::(12, .s ((UF.eq (.int .i64 ((crN ps p % 2:Nat):Int))).toSF))::(13, .s ((UF.eq (.int .i64 (2*((crN ps p % 2:Nat):Int)))).toSF))::(14, .s ((UF.eq (.int .i64 (2*((crN ps p % 2:Nat):Int) - 1))).toSF))::(4, .u (UF.eq (.int .i64 (2*((crN ps p % 2:Nat):Int) - 1)))):: []) hmix s (by kernel_rfl)
   (oc (zK (f:=fPV m p) 6 (by kernel_rfl) (hz:=zP _ _))<|oc zC<|oc (zH zD zRZ (fun u0 u1 W hb (h0:(fPV m p).p u0 W) (h1:u1=l)=>by rw [show u1=l from h1];exact zFx h0 ((SF.row 6 (pvs m ps)).st _ _ _ hl (s.up hb)) hm hm0 hn (hT.below (s.up hb))))<|oc (zQn (crN ps p) (by have:=zIf (crK ps p) (nE ps);have:=zRM ps;unfold crN;omega) iiz iiz)<|oc (zLI .i64 2 ((crN ps p % 2:Nat):Int) (2*((crN ps p % 2:Nat):Int)) iiz iiz (by rw [IntKind.wrap_i64];omega))<|oc (zEZ .i64 (2*((crN ps p % 2:Nat):Int)) 1 (2*((crN ps p % 2:Nat):Int) - 1) iiz iiz (by rw [IntKind.wrap_i64];omega))<|oc zG<|zE) fun a w4 s=> ?_
  refine zA rfl ?_
  refine wpIn_ret ?_
  exact StS.res1 s (t:=4) rfl (fun v W h=>by rw [zJH e];exact h)
theorem zL8 {m:Nat} {W:World} {u v l:Value} {p:V2} {ps:List V2} (h1:(fPV m p).p u W) (h2:(SF.ptr (CU.is [l]).cf).p v W) (hl:(SF.row 6 (pvs m ps)).p l W) (hm:m≤159) (hm0:0<m) (hn:ps.length≤1000000) (hT:Tab W):Calls Tryz.prog 83 #[u,v] W (Ret W (fB (decide (yD ps p<0))).toSF):=by
 refine z7 [(fPV m p).toSF,SF.ptr (CU.is [l]).cf] Tryz.func83 rfl (by kernel_rfl) ⟨h1,h2,trivial⟩ fun a s=> ?_
 refine wpIn_seq ?_
 refine zB 0 [] hmix s (by kernel_rfl)
  zE fun a w1 s=> ?_
 refine yJ (CU.agg (fPV m p)) rfl s (by kernel_rfl) (fun v W h=>yP h) fun b2 a w s=> ?_
 refine yU (UF.eq (.bool false)) rfl s (by kernel_rfl) iiz fun a w s=> ?_
 refine zA rfl ?_
 refine wpIn_seq ?_
 replace s:=s.drop [3]
 refine zB 5 ((4, .s ((fPV m p).toSF))::(5, .s ((UF.eq l).toSF))::(6, .s ((UF.eq (.int .i64 (yD ps p))).toSF))::(7, .s ((UF.eq (.bool (decide (yD ps p<0)))).toSF))::(3, .u (UF.eq (.bool (decide (yD ps p<0))))):: []) hmix s (by kernel_rfl)
  (oc (zK (f:=fPV m p) 6 (by kernel_rfl) (hz:=zP _ _))<|oc (jH (C:=(CU.is [l]).cf) (by kernel_rfl) iiz zEb)<|oc (zH zD zFm (fun u0 u1 W hb (h0:(fPV m p).p u0 W) (h1:u1=l)=>by rw [show u1=l from h1];exact zAZ h0 ((SF.row 6 (pvs m ps)).st _ _ _ hl (s.up hb)) hm hm0 hn (hT.below (s.up hb))))<|oc (zQ .i64 (yD ps p) 0 (decide (yD ps p<0)) iiz iiz rfl rfl)<|oc zG<|zE) fun a w2 s=> ?_
 refine zA rfl ?_
 refine wpIn_ret ?_
 exact StS.res1 s (t:=3) rfl iiz
theorem zJg {m:Nat} {W:World} {l q:Value} {ps qs:List V2} (hl:(SF.row 6 (pvs m ps)).p l W) (hq:(SF.row 6 (pvs m qs)).p q W) (hm:m≤159) (hm0:0<m) (hn:ps.length≤1000000) (hnq:qs.length≤1000000) (hT:Tab W):Calls Tryz.prog 36 #[l,q] W (Ret W (fB (!(qs.any (fun p=>decide (yD ps p<0))))).toSF):=by
 have hlc:=zBK hl
 refine z7 [(UF.eq l).toSF,SF.row 6 (pvs m qs)] Tryz.func36 rfl (by kernel_rfl) ⟨rfl,hq,trivial⟩ fun a s=> ?_
 refine wpIn_seq ?_
 refine zB 0 [] hmix s (by kernel_rfl)
  zE fun a w1 s=> ?_
 refine yJ (CU.is [l]) rfl s (by kernel_rfl) (fun v W h=>zJf h hlc.1 hlc.2) fun b2 a w s=> ?_
 refine yU (UF.eq (.bool false)) rfl s (by kernel_rfl) iiz fun a w s=> ?_
 refine zA rfl ?_
 refine wpIn_seq ?_
 replace s:=s.drop [4]
 refine zB 5 ((5, .s (SF.row 6 (pvs m qs)))::(6, .s (SF.fn Tryz.prog (TB m (fun p=>decide (yD ps p<0)))))::(7, .s ((UF.eq (.bool (qs.any (fun p=>decide (yD ps p<0))))).toSF))::(8, .s ((UF.eq (.bool (!(qs.any (fun p=>decide (yD ps p<0)))))).toSF))::(4, .u (UF.eq (.bool (!(qs.any (fun p=>decide (yD ps p<0))))))):: []) hmix s (by kernel_rfl)
  (oc zC<|oc (zEr (fun u W hb (h:(SF.pb b2 (CU.is [l]).cf).p u W)=>zJo (enters_of Tryz.func83 (by kernel_rfl) rfl) (fun W' hb' args R ⟨u1,p,e,h1,hR⟩=>by subst e hR;simpa using zL8 h1 ((SF.ptr _).st _ _ _ h.2 hb') ((SF.row 6 _).st _ _ _ ((SF.row 6 _).st _ _ _ hl (s.up hb)) hb') hm hm0 hn ((hT.below (s.up hb)).below hb'))))<|oc (zH zD zRY (fun u0 u1 W hb (h0:(SF.row 6 (pvs m qs)).p u0 W) (h1:(SF.fn Tryz.prog (TB m (fun p=>decide (yD ps p<0)))).p u1 W)=>zT3 h0 h1 hnq))<|oc (zD6 (qs.any (fun p=>decide (yD ps p<0))) iiz (fun _=>rfl))<|oc zG<|zE) fun a w2 s=> ?_
 refine zA rfl ?_
 refine wpIn_ret ?_
 exact StS.res1 s (t:=4) rfl iiz
theorem zHc {m:Nat} {W:World} {u v l:Value} {p:V2} {ps:List V2} (h1:(fPV m p).p u W) (h2:(SF.ptr (CU.is [l]).cf).p v W) (hl:(SF.row 6 (pvs m ps)).p l W) (hm:m≤159) (hm0:0<m) (hn:ps.length≤1000000) (hT:Tab W):Calls Tryz.prog 82 #[u,v] W (Ret W (fB (yD ps p !=1)).toSF):=by
 refine z7 [(fPV m p).toSF,SF.ptr (CU.is [l]).cf] Tryz.func82 rfl (by kernel_rfl) ⟨h1,h2,trivial⟩ fun a s=> ?_
 refine wpIn_seq ?_
 refine zB 0 [] hmix s (by kernel_rfl)
  zE fun a w1 s=> ?_
 refine yJ (CU.agg (fPV m p)) rfl s (by kernel_rfl) (fun v W h=>yP h) fun b2 a w s=> ?_
 refine yU (UF.eq (.bool false)) rfl s (by kernel_rfl) iiz fun a w s=> ?_
 refine zA rfl ?_
 refine wpIn_seq ?_
 replace s:=s.drop [3]
 refine zB 5 ((4, .s ((fPV m p).toSF))::(5, .s ((UF.eq l).toSF))::(6, .s ((UF.eq (.int .i64 (yD ps p))).toSF))::(7, .s ((UF.eq (.bool (yD ps p !=1))).toSF))::(3, .u (UF.eq (.bool (yD ps p !=1)))):: []) hmix s (by kernel_rfl)
  (oc (zK (f:=fPV m p) 6 (by kernel_rfl) (hz:=zP _ _))<|oc (jH (C:=(CU.is [l]).cf) (by kernel_rfl) iiz zEb)<|oc (zH zD zFm (fun u0 u1 W hb (h0:(fPV m p).p u0 W) (h1:u1=l)=>by rw [show u1=l from h1];exact zAZ h0 ((SF.row 6 (pvs m ps)).st _ _ _ hl (s.up hb)) hm hm0 hn (hT.below (s.up hb))))<|oc (zQ .i64 (yD ps p) 1 (yD ps p !=1) iiz iiz rfl rfl)<|oc zG<|zE) fun a w2 s=> ?_
 refine zA rfl ?_
 refine wpIn_ret ?_
 exact StS.res1 s (t:=3) rfl iiz
theorem zE8 {m:Nat} {W:World} {l q:Value} {ps qs:List V2} (hl:(SF.row 6 (pvs m ps)).p l W) (hq:(SF.row 6 (pvs m qs)).p q W) (hm:m≤159) (hm0:0<m) (hn:ps.length≤1000000) (hnq:qs.length≤1000000) (hT:Tab W):Calls Tryz.prog 35 #[l,q] W (Ret W (fB (!(qs.any (fun p=>yD ps p !=1)))).toSF):=by
 have hlc:=zBK hl
 refine z7 [(UF.eq l).toSF,SF.row 6 (pvs m qs)] Tryz.func35 rfl (by kernel_rfl) ⟨rfl,hq,trivial⟩ fun a s=> ?_
 refine wpIn_seq ?_
 refine zB 0 [] hmix s (by kernel_rfl)
  zE fun a w1 s=> ?_
 refine yJ (CU.is [l]) rfl s (by kernel_rfl) (fun v W h=>zJf h hlc.1 hlc.2) fun b2 a w s=> ?_
 refine yU (UF.eq (.bool false)) rfl s (by kernel_rfl) iiz fun a w s=> ?_
 refine zA rfl ?_
 refine wpIn_seq ?_
 replace s:=s.drop [4]
 refine zB 5 ((5, .s (SF.row 6 (pvs m qs)))::(6, .s (SF.fn Tryz.prog (TB m (fun p=>yD ps p !=1))))::(7, .s ((UF.eq (.bool (qs.any (fun p=>yD ps p !=1)))).toSF))::(8, .s ((UF.eq (.bool (!(qs.any (fun p=>yD ps p !=1))))).toSF))::(4, .u (UF.eq (.bool (!(qs.any (fun p=>yD ps p !=1)))))):: []) hmix s (by kernel_rfl)
  (oc zC<|oc (zEr (fun u W hb (h:(SF.pb b2 (CU.is [l]).cf).p u W)=>zJo (enters_of Tryz.func82 (by kernel_rfl) rfl) (fun W' hb' args R ⟨u1,p,e,h1,hR⟩=>by subst e hR;simpa using zHc h1 ((SF.ptr _).st _ _ _ h.2 hb') ((SF.row 6 _).st _ _ _ ((SF.row 6 _).st _ _ _ hl (s.up hb)) hb') hm hm0 hn ((hT.below (s.up hb)).below hb'))))<|oc (zH zD zRY (fun u0 u1 W hb (h0:(SF.row 6 (pvs m qs)).p u0 W) (h1:(SF.fn Tryz.prog (TB m (fun p=>yD ps p !=1))).p u1 W)=>zT3 h0 h1 hnq))<|oc (zD6 (qs.any (fun p=>yD ps p !=1)) iiz (fun _=>rfl))<|oc zG<|zE) fun a w2 s=> ?_
 refine zA rfl ?_
 refine wpIn_ret ?_
 exact StS.res1 s (t:=4) rfl iiz
theorem zLk (p q r:Rat):qsg (p+r) (q+r)=qsg p q:=by
 rcases zFY p q with h|h|h
 ·rw [h];exact zFt.2 (by have:=zFt.1 h;grind)
 ·rw [h];exact zDd.2 (by have:=zDd.1 h;grind)
 ·rw [h];exact zEV.2 (by have:=zEV.1 h;grind)
theorem zOj (a b p:V2):crs b a p= -crs a b p:=by unfold crs;grind
theorem zKG (a b p:V2):(yM b a p==0)=(yM a b p==0):=by
 unfold yM
 rw [zOj,Rat.neg_num,Int.sign_neg]
 rcases Int.sign_trichotomy (crs a b p).num with h|h|h<;>rw [h]<;>decide
theorem zNN (a b r:Rat):zLB b a r=zLB a b r:=by
 unfold zLB
 by_cases e:a=b
 ·subst e;rfl
 ·have h1: ¬qsg a b=0:=fun h=>e (zDd.1 h)
  have h2: ¬qsg b a=0:=fun h=>e (zDd.1 h).symm
  rw [beq_eq_false_iff_ne.2 h1,beq_eq_false_iff_ne.2 h2]
  rfl
theorem zJx (a b r:Rat):zBQ b a r=zBQ a b r:=by
 unfold zBQ
 rw [zNN,show qsg b r*qsg r a=qsg a r*qsg r b by rw [zFZ r b,zFZ a r,Int.neg_mul_neg,Int.mul_comm]]
theorem zQj (a b p:V2):onB b a p=onB a b p:=by
 unfold onB
 rw [zKG,zJx,zJx a.2]
theorem zHl {a b p:V2} (h:a.2=b.2):zQP a b p=false:=by
 unfold zQP
 rw [h]
 rcases zFY b.2 p.2 with e|e|e
 ·rw [e,zEV.2 (zFt.1 e)];rfl
 ·rw [e,zDd.2 (zDd.1 e).symm];rfl
 ·rw [e];rfl
theorem zKf (a b p:V2):zCO b a p=zCO a b p:=by
 unfold zCO
 rcases zFY a.2 b.2 with h|h|h
 ·rw [h,zEV.2 (zFt.1 h),if_pos (by decide),if_neg (by decide)]
 ·have e:=zDd.1 h
  rw [zHl e,zHl e.symm,ite_self,ite_self]
 ·rw [h,zFt.2 (zEV.1 h),if_neg (by decide),if_pos (by decide)]
theorem zQk (a b p t:V2):onB (zEC a t) (zEC b t) (zEC p t)=onB a b p:=by
 unfold onB yM zBQ zLB
 rw [zId]
 unfold zEC
 simp only [zLk]
theorem zKg (a b p t:V2):zCO (zEC a t) (zEC b t) (zEC p t)=zCO a b p:=by
 unfold zCO zQP yM
 rw [zId,zId]
 unfold zEC
 simp only [zLk]
theorem zJ9 (f:Nat→Bool) (N:Nat):decide (zEc f N≥0)=(List.range N).any f:=by
 unfold zEc
 cases h:(List.range N).find? f with
 |none=>
  have:=List.find?_eq_none.1 h
  rw [show (List.range N).any f=false from List.any_eq_false.2 this]
  rfl
 |some k=>
  have h1:=List.find?_some h
  have h2:=List.mem_of_find?_eq_some h
  rw [List.any_eq_true.2 ⟨k,h2,h1⟩]
  exact decide_eq_true (show ((k:Nat):Int)≥0 by omega)
theorem zA1 (ps:List V2) (p:V2):yD ps p=if ((List.range (nE ps)).any (onK ps p))=true then 0 else 2*((zBa (crK ps p) (nE ps) % 2:Nat):Int) - 1:=by
 unfold yD
 have h:=zJ9 (onK ps p) (nE ps)
 by_cases e:onI ps p≥0
 ·rw [if_pos e,if_pos (by rw [←h];exact decide_eq_true e)]
 ·rw [if_neg e,if_neg (by rw [←h,decide_eq_false (show ¬zEc (onK ps p) (nE ps)≥0 from e)];decide)]
  rfl
theorem zAE {f g:Nat→Bool}: ∀k,(∀j,j<k→f j=g j)→zBa f k=zBa g k
 |0,_=>rfl
 |k+1,h=>by
  show zBa f k+_=zBa g k+_
  rw [zAE k fun j hj=>h j (Nat.lt_succ_of_lt hj),h k (Nat.lt_succ_self k)]
theorem zDZ (f:Nat→Bool): ∀k,zBa f (k+1)=(if f 0=true then 1 else 0)+zBa (fun i=>f (i+1)) k
 |0=>by show zBa f 0+_=_+zBa _ 0;simp [zBa]
 |k+1=>by
  have h:zBa f (k+1+1)=zBa f (k+1)+(if f (k+1)=true then 1 else 0):=rfl
  rw [h,zDZ f k]
  show _=_+(zBa (fun i=>f (i+1)) k+(if f (k+1)=true then 1 else 0))
  omega
theorem zIe (f:Nat→Bool) (n:Nat):zBa (fun i=>f ((i+1) % n)) n=zBa f n:=by
 cases n with
 |zero=>rfl
 | succ m=>
  have h:zBa (fun i=>f ((i+1) % (m+1))) (m+1)=zBa (fun i=>f ((i+1) % (m+1))) m+(if f ((m+1) % (m+1))=true then 1 else 0):=rfl
  rw [h,zDZ,Nat.mod_self,zAE (f:=fun i=>f ((i+1) % (m+1))) (g:=fun i=>f (i+1)) m fun j hj=>by
   show f ((j+1) % (m+1))=f (j+1)
   rw [Nat.mod_eq_of_lt (by omega)]]
  omega
theorem zFz (f:Nat→Bool) (n:Nat): ∀k,zBa (fun i=>f ((i+k) % n)) n=zBa f n
 |0=>zAE n fun j hj=>by show f ((j+0) % n)=f j;rw [Nat.add_zero,Nat.mod_eq_of_lt hj]
 | k+1=>by
  have:=zIe (fun i=>f ((i+k) % n)) n
  rw [zFz f n k] at this
  rw [←this]
  exact zAE n fun j hj=>by
   show f ((j+(k+1)) % n)=f (((j+1) % n+k) % n)
   rw [Nat.mod_add_mod]
   congr 2
   omega
theorem zHn (f:Nat→Bool): ∀n,zBa (fun i=>f (n - 1 - i)) n=zBa f n
 |0=>rfl
 | n+1=>by
  rw [zDZ]
  have h:zBa f (n+1)=zBa f n+(if f n=true then 1 else 0):=rfl
  rw [h, ←zHn f n,zAE (f:=fun i=>f (n+1 - 1 - (i+1))) (g:=fun i=>f (n - 1 - i)) n fun j hj=>by
   show f (n+1 - 1 - (j+1))=f (n - 1 - j)
   congr 1
   omega]
  show (if f (n+1 - 1 - 0)=true then 1 else 0)+_=_
  rw [show n+1 - 1 - 0=n by omega]
  omega
theorem zIj {f g:Nat→Bool} {n:Nat} (h1: ∀i,i<n→f i=true→ ∃j,j<n∧g j=true) (h2: ∀j,j<n→g j=true→ ∃i,i<n∧f i=true):(List.range n).any f=(List.range n).any g:=by
 rw [Bool.eq_iff_iff,List.any_eq_true,List.any_eq_true]
 exact ⟨fun ⟨i,hi,e⟩=>by obtain ⟨j,hj,e'⟩:=h1 i (List.mem_range.1 hi) e;exact ⟨j,List.mem_range.2 hj,e'⟩,fun ⟨j,hj,e⟩=>by obtain ⟨i,hi,e'⟩:=h2 j (List.mem_range.1 hj) e;exact ⟨i,List.mem_range.2 hi,e'⟩⟩
theorem zLM {ps qs:List V2} (h:ps.length=qs.length):nE ps=nE qs:=by unfold nE;rw [h]
theorem zHZ {ps:List V2} {i:Nat} (h:i<nE ps):i<ps.length∧nE ps=ps.length:=by
 unfold nE at h ⊢
 split at h
 ·rename_i h2;exact ⟨h,if_pos h2⟩
 ·omega
theorem zIK {ps:List V2} {k i:Nat} (hk:k<ps.length) (hi:i<ps.length):at_ (zJL ps k) ((i+1) % (zJL ps k).length)=at_ ps (((i+k) % ps.length+1) % ps.length):=by
 rw [zHL,zMy hk (Nat.mod_lt _ (by omega)),Nat.mod_add_mod,Nat.mod_add_mod]
 congr 2
 omega
theorem zKp {ps:List V2} {k:Nat} (hk:k<ps.length) (p:V2):yD (zJL ps k) p=yD ps p:=by
 rw [zA1,zA1,zLM (zHL ps k)]
 by_cases h0:nE ps=0
 ·rw [h0];rfl
 have hn:=(zHZ (ps:=ps) (i:=0) (by omega)).2
 have ho: ∀i,i<ps.length→onK (zJL ps k) p i=onK ps p ((i+k) % ps.length):=fun i hi=>by
  unfold onK;rw [zMy hk hi,zIK hk hi]
 have hc: ∀i,i<ps.length→crK (zJL ps k) p i=crK ps p ((i+k) % ps.length):=fun i hi=>by
  unfold crK;rw [zMy hk hi,zIK hk hi]
 rw [hn,zIj (g:=onK ps p) (fun i hi e=>⟨(i+k) % ps.length,Nat.mod_lt _ (by omega),by rw [←ho i hi];exact e⟩) (fun j hj e=>⟨(j+(ps.length - k)) % ps.length,Nat.mod_lt _ (by omega),by
  rw [ho _ (Nat.mod_lt _ (by omega)),Nat.mod_add_mod,show j+(ps.length - k)+k=j+ps.length by omega,Nat.add_mod_right,Nat.mod_eq_of_lt hj];exact e⟩),zAE (g:=fun i=>crK ps p ((i+k) % ps.length)) _ hc,zFz (crK ps p)]
def zFS (ps:List V2):List V2:=(List.range ps.length).map fun i=>at_ ps ((ps.length - i) % ps.length)
theorem zDG (ps:List V2):(zFS ps).length=ps.length:=by simp [zFS]
theorem zMz {ps:List V2} {i:Nat} (hi:i<ps.length):at_ (zFS ps) i=at_ ps ((ps.length - i) % ps.length):=by
 show (zFS ps).getD i (0,0)=_
 unfold zFS
 rw [List.getD_eq_getElem?_getD,List.getElem?_map,List.getElem?_range hi]
 rfl
theorem zEj {ps:List V2} {i:Nat} (hi:i<ps.length):at_ (zFS ps) i=at_ ps ((ps.length - 1 - i+1) % ps.length)∧at_ (zFS ps) ((i+1) % (zFS ps).length)=at_ ps (ps.length - 1 - i):=by
 refine ⟨by rw [zMz hi];congr 2;omega, ?_⟩
 rw [zDG,zMz (Nat.mod_lt _ (by omega))]
 congr 1
 rcases Nat.lt_or_eq_of_le (Nat.succ_le_of_lt hi) with h|h
 ·rw [Nat.mod_eq_of_lt (show i+1<ps.length from h),Nat.mod_eq_of_lt (by omega)];omega
 ·rw [show i+1=ps.length from h,Nat.mod_self,Nat.sub_zero,Nat.mod_self];omega
theorem zKq (ps:List V2) (p:V2):yD (zFS ps) p=yD ps p:=by
 rw [zA1,zA1,zLM (zDG ps)]
 by_cases h0:nE ps=0
 ·rw [h0];rfl
 have hn:=(zHZ (ps:=ps) (i:=0) (by omega)).2
 have ho: ∀i,i<ps.length→onK (zFS ps) p i=onK ps p (ps.length - 1 - i):=fun i hi=>by
  unfold onK;rw [(zEj hi).1,(zEj hi).2,zQj]
 have hc: ∀i,i<ps.length→crK (zFS ps) p i=crK ps p (ps.length - 1 - i):=fun i hi=>by
  unfold crK;rw [(zEj hi).1,(zEj hi).2,zKf]
 rw [hn,zIj (g:=onK ps p) (fun i hi e=>⟨ps.length - 1 - i,by omega,by rw [←ho i hi];exact e⟩) (fun j hj e=>⟨ps.length - 1 - j,by omega,by
  rw [ho _ (by omega),show ps.length - 1 - (ps.length - 1 - j)=j by omega];exact e⟩),zAE (g:=fun i=>crK ps p (ps.length - 1 - i)) _ hc,zHn (crK ps p)]
theorem zJG (ps:List V2) (p t:V2):yD (zBq ps t) (zEC p t)=yD ps p:=by
 rw [zA1,zA1,zLM (zBp ps t)]
 by_cases h0:nE ps=0
 ·rw [h0];rfl
 have hn:=(zHZ (ps:=ps) (i:=0) (by omega)).2
 have hm: ∀i,i<ps.length→(i+1) % ps.length<ps.length:=fun i hi=>Nat.mod_lt _ (by omega)
 have ho: ∀i,i<ps.length→onK (zBq ps t) (zEC p t) i=onK ps p i:=fun i hi=>by
  unfold onK;rw [zBp,zDA hi,zDA (hm i hi),zQk]
 have hc: ∀i,i<ps.length→crK (zBq ps t) (zEC p t) i=crK ps p i:=fun i hi=>by
  unfold crK;rw [zBp,zDA hi,zDA (hm i hi),zKg]
 rw [hn,zIj (g:=onK ps p) (fun i hi e=>⟨i,hi,by rw [←ho i hi];exact e⟩) (fun j hj e=>⟨j,hj,by rw [ho j hj];exact e⟩),zAE _ hc]
theorem zMs {a b r:Rat} (h:(a≤r∧r≤b)∨(b≤r∧r≤a)):zBQ a b r=true:=by
 have le_q: ∀{x y:Rat},x≤y→qsg x y≤0:=fun {x y} h=>by
  rcases zFY x y with e|e|e
  ·omega
  ·omega
  ·exact absurd (zEV.1 e) (Rat.not_lt.2 h)
 have ge_q: ∀{x y:Rat},x≤y→0≤qsg y x:=fun {x y} h=>by rw [zFZ x y];have:=le_q h;omega
 unfold zBQ
 rw [Bool.and_eq_true]
 constructor
 ·refine decide_eq_true ?_
  rcases h with ⟨h1,h2⟩|⟨h1,h2⟩
  ·have:=Int.mul_nonneg_of_nonpos_of_nonpos (le_q h1) (le_q h2);omega
  ·have:=Int.mul_nonneg (ge_q h2) (ge_q h1);omega
 ·unfold zLB
  by_cases e:a=b
  ·subst e
   have:a=r:=by rcases h with ⟨h1,h2⟩|⟨h1,h2⟩<;>grind
   rw [this,zDd.2 rfl];rfl
  ·rw [beq_eq_false_iff_ne.2 (fun h=>e (zDd.1 h))];rfl
theorem zEM {a b t:Rat} (h0:0≤t) (h1:t≤1):(a≤a+(b - a)*t∧a+(b - a)*t≤b)∨(b≤a+(b - a)*t∧a+(b - a)*t≤a):=by
 rcases (Rat.le_total:a≤b∨b≤a) with h|h
 ·have k1:=Rat.mul_nonneg (show 0≤b - a by grind) h0
  have k2:=Rat.mul_nonneg (show 0≤b - a by grind) (show 0≤1 - t by grind)
  exact .inl ⟨by grind,by grind⟩
 ·have k1:=Rat.mul_nonneg (show 0≤a - b by grind) h0
  have k2:=Rat.mul_nonneg (show 0≤a - b by grind) (show 0≤1 - t by grind)
  exact .inr ⟨by grind,by grind⟩
theorem zRH {a b:V2} {t:Rat} (h0:0≤t) (h1:t≤1):onB a b (seg a b t)=true:=by
 unfold onB
 have h2:yM a b (seg a b t)=0:=by
  unfold yM
  rw [show crs a b (seg a b t)=0 by unfold crs seg;grind]
  rfl
 rw [h2]
 unfold seg
 rw [zMs (zEM h0 h1),zMs (zEM h0 h1)]
 rfl
theorem zMT {ps:List V2} {p:V2} {i:Nat} (h2:2≤ps.length) (hi:i<ps.length) (h:onB (at_ ps i) (at_ ps ((i+1) % ps.length)) p=true):yD ps p=0:=by
 rw [zA1]
 refine if_pos (List.any_eq_true.2 ⟨i,List.mem_range.2 ?_,h⟩)
 unfold nE
 rw [if_pos h2]
 exact hi
theorem zGw {ps:List V2} {t:Rat} {i:Nat} (h2:2≤ps.length) (hi:i<ps.length) (h0:0≤t) (h1:t≤1):yD ps (seg (at_ ps i) (at_ ps ((i+1) % ps.length)) t)=0:=zMT h2 hi (zRH h0 h1)
theorem zD3 {ps:List V2} {i:Nat} (h2:2≤ps.length) (hi:i<ps.length):yD ps (at_ ps i)=0:=by
 have:=zGw (t:=0) h2 hi Rat.le_refl (by decide)
 rwa [show seg (at_ ps i) (at_ ps ((i+1) % ps.length)) 0=at_ ps i by unfold seg;exact Prod.ext (by grind) (by grind)] at this
theorem zHv (ps:List V2) (p:V2):yD ps p= -1∨yD ps p=0∨yD ps p=1:=by
 rw [zA1]
 split
 ·exact .inr (.inl rfl)
 ·rcases Nat.mod_two_eq_zero_or_one (zBa (crK ps p) (nE ps)) with h|h<;>rw [h]
  ·exact .inl rfl
  ·exact .inr (.inr rfl)
theorem zJ7 {ps:List V2} (h2:2≤ps.length):(!(ps.any fun p=>decide (yD ps p<0)))=true:=by
 rw [show (ps.any fun p=>decide (yD ps p<0))=false from List.any_eq_false.2 fun p hp=>by
  obtain ⟨i,hi,rfl⟩:=zLU hp
  rw [zD3 h2 hi];decide]
 rfl
theorem zFK {ps:List V2} (h2:2≤ps.length):(!(ps.any fun p=>yD ps p !=1))=false:=by
 rw [List.any_eq_true.2 ⟨at_ ps 0,zDB (by omega),by rw [zD3 h2 (by omega)];rfl⟩]
 rfl
end Go.Proofs.Wd

namespace Go.Proofs.Wd
set_option maxRecDepth 100000
set_option maxHeartbeats 1000000
open Go.RowKit Lb
theorem zNE (m:Nat) (ps:List V2) (k:Nat):(pvs m ps).drop k=pvs m (ps.drop k):=by unfold pvs;rw [List.map_drop]
theorem zND (m:Nat) (ps:List V2) (k:Nat):(pvs m ps).take k=pvs m (ps.take k):=by unfold pvs;rw [List.map_take]
theorem zQc (m:Nat) (ps:List V2) (k:Nat):pvs m (ps.drop k)++pvs m (ps.take k)=pvs m (zJL ps k):=by unfold pvs zJL;rw [List.map_append]
theorem zRl (z:Int) {n:Nat} (h:0<n): ∃k:Nat,k<n∧(z.tmod n+n).tmod n=((k:Nat):Int):=by
 have h1: -(n:Int)<z.tmod n:=Int.lt_tmod_of_pos z (by omega)
 have h2:z.tmod n<n:=Int.tmod_lt_of_pos z (by omega)
 have h3:0≤(z.tmod n+n).tmod n:=Int.tmod_nonneg _ (by omega)
 have h4:(z.tmod n+n).tmod n<n:=Int.tmod_lt_of_pos _ (by omega)
 exact ⟨((z.tmod n+n).tmod n).toNat,by omega,by omega⟩
theorem zKm {z:Int} (h1: -9223372036854775808≤z) (h2:z≤9223372036854775807):IntKind.i64.wrap z=z:=by
 rw [IntKind.wrap_i64]
 omega
def zTr (m:Nat) (ps:List V2):SF:=⟨fun v W=> ∃kk,kk<ps.length∧(SF.row 6 (pvs m (zJL ps kk))).p v W,fun _ _ _ ⟨kk,h,hr⟩ hb=>⟨kk,h,(SF.row 6 _).st _ _ _ hr hb⟩⟩
theorem zLr (m:Nat) (ps:List V2): ∀C,C∈pvs m ps→CU.ok 6 C:=fun C hC=>by
 obtain ⟨t,_,rfl⟩:=List.mem_map.1 hC
 exact zDf _ _
theorem zNj {ps:List V2} {k m:Nat} (h:k<ps.length):pvs m ((zFS ps).take (k+1))=pvs m ((zFS ps).take k)++ [CU.agg (fPV m (at_ ps ((ps.length - k) % ps.length)))]:=by
 have e:(zFS ps)[k]?=some (at_ ps ((ps.length - k) % ps.length)):=by
  rw [←zMz h]
  unfold at_
  rw [List.getD_eq_getElem?_getD,List.getElem?_eq_getElem (by rw [zDG];exact h)]
  rfl
 rw [List.take_add_one,e]
 simp [pvs]
theorem zJS {m:Nat} {W:World} {l u:Value} {z:Int} {ps:List V2} (hu:u= .int .i64 z) (hl:(SF.row 6 (pvs m ps)).p l W) (h0:0<ps.length) (hn:ps.length≤1000000):Calls Tryz.prog 39 #[u,l] W (Ret W (zTr m ps)):=by
 have hNl:(pvs m ps).length=ps.length:=by simp
 obtain ⟨kk,hk',hkk⟩:=zRl z (show 0<(pvs m ps).length by omega)
 have hk:kk<ps.length:=by omega
 refine z7 [(UF.eq (.int .i64 z)).toSF,(UF.eq l).toSF] Tryz.func39 rfl (by kernel_rfl) ⟨hu,rfl,trivial⟩ fun a s=> ?_
 replace s:=s.renew [(0, .u (UF.eq (.int .i64 z))),(1, .u (UF.eq l))] (fmz ⟨.inr ⟨_,rfl, .head _⟩,fmz ⟨.inr ⟨_,rfl,mz1⟩,fnz⟩⟩)
 refine wpIn_seq ?_
 refine zB 1 ((4, .u (UF.eq (.slice none 0 0))):: []) hmix s (by kernel_rfl)
  (oc zG<|zE) fun a w1 s=> ?_
 refine zA rfl ?_
 refine wpIn_seq ?_
 refine wpIn_seq ?_
 refine zB 3 ((5, .s ((UF.eq l).toSF))::(6, .s ((UF.eq (.int .i64 (((pvs m ps).length:Nat):Int))).toSF))::(7, .u (UF.eq (.bool false))):: []) hmix s (by kernel_rfl)
  (oc zC<|oc (y6 (z:=6) (Cs:=pvs m ps) (by kernel_rfl) (fun v W hb h=>(yW hl h (s.up hb))) (fun _=>rfl))<|oc (zQ .i64 (((pvs m ps).length:Nat):Int) 0 false iiz iiz (beq_eq_false_iff_ne.2 (by omega)) rfl)<|zE) fun a w2 s=> ?_
 refine zA rfl ?_
 refine StS.cond s false iiz (fun e=>by cases e) (fun e=> ?_)
 refine wpIn_skip ?_
 refine wpIn_seq ?_
 refine qC 10 ((8, .s ((UF.eq (.int .i64 z)).toSF))::(9, .s ((UF.eq l).toSF))::(10, .s ((UF.eq (.int .i64 (((pvs m ps).length:Nat):Int))).toSF))::(11, .s ((UF.eq (.int .i64 ((z).tmod (((pvs m ps).length:Nat):Int)))).toSF))::(12, .s ((UF.eq l).toSF))::(13, .s ((UF.eq (.int .i64 (((pvs m ps).length:Nat):Int))).toSF))::(14, .s ((UF.eq (.int .i64 (z.tmod (((pvs m ps).length:Nat):Int)+(((pvs m ps).length:Nat):Int)))).toSF))::(15, .s ((UF.eq l).toSF))::(16, .s ((UF.eq (.int .i64 (((pvs m ps).length:Nat):Int))).toSF))::(17, .u (UF.eq (.int .i64 ((kk:Nat):Int)))):: []) s (by kernel_rfl)
  (oc zC<|oc zC<|oc (y6 (z:=6) (Cs:=pvs m ps) (by kernel_rfl) (fun v W hb h=>(yW hl h (s.up hb))) (fun _=>rfl))<|oc (zCU .i64 z (((pvs m ps).length:Nat):Int) ((z).tmod (((pvs m ps).length:Nat):Int)) iiz iiz (by omega) rfl)<|oc zC<|oc (y6 (z:=6) (Cs:=pvs m ps) (by kernel_rfl) (fun v W hb h=>(yW hl h (s.up hb))) (fun _=>rfl))<|oc (y7 .i64 ((z).tmod (((pvs m ps).length:Nat):Int)) (((pvs m ps).length:Nat):Int) (z.tmod (((pvs m ps).length:Nat):Int)+(((pvs m ps).length:Nat):Int)) iiz iiz (by have h1: -(((pvs m ps).length:Nat):Int)<z.tmod (((pvs m ps).length:Nat):Int):=Int.lt_tmod_of_pos z (by omega);have h2:z.tmod (((pvs m ps).length:Nat):Int)<(((pvs m ps).length:Nat):Int):=Int.tmod_lt_of_pos z (by omega);exact zKm (by omega) (by omega)))<|oc zC<|oc (y6 (z:=6) (Cs:=pvs m ps) (by kernel_rfl) (fun v W hb h=>(yW hl h (s.up hb))) (fun _=>rfl))<|oc (zCU .i64 (z.tmod (((pvs m ps).length:Nat):Int)+(((pvs m ps).length:Nat):Int)) (((pvs m ps).length:Nat):Int) ((kk:Nat):Int) iiz iiz (by omega) hkk)<|zE) fun a w3 s=> ?_
 replace s:=s.drop [0]
 refine yU (UF.eq (.int .i64 ((kk:Nat):Int))) rfl s (by kernel_rfl) iiz fun a w s=> ?_
 refine zA rfl ?_
 refine wpIn_seq ?_
 replace s:=s.drop [4]
 have sb:=s;have so:=s.old;have sg:=s.gr.size
 refine zDH (GW w) hmix s fun w4 hwb s=> ?_
 have hz:=hwb.size
 refine zA4 [] [0,1,2,3,4,5,6,7] ((18, .s (SF.emp w4 30))::(19, .s ((UF.eq l).toSF))::(20, .s ((UF.eq (.int .i64 ((kk:Nat):Int))).toSF))::(21, .s (SF.row 6 (pvs m (ps.drop kk))))::(22, .s (SF.newRow w4 30 6 (pvs m (ps.drop kk))))::(23, .s ((UF.eq l).toSF))::(24, .s ((UF.eq (.int .i64 ((kk:Nat):Int))).toSF))::(25, .s (SF.row 6 (pvs m (ps.take kk)))):: []) (zE9 hwb) s (by kernel_rfl)
  (oc (zE0 (z:=6) (by kernel_rfl))<|oc zC<|oc zC<|oc (zJZ (z:=6) (k:=kk) (Cs:=pvs m ps) (by kernel_rfl) (Nat.le_of_lt hk') (fun v W hb h=>(yW hl h (s.up hb))) iiz (fun v W h=>by rw [zNE] at h;exact h))<|oc (zHY (pvs m (ps.drop kk)) (by kernel_rfl) iiz (fun v W hb h=>h) (zLr _ _) (by simp;omega))<|oc zC<|oc zC<|oc (zI1 (z:=6) (k:=kk) (Cs:=pvs m ps) (by kernel_rfl) (Nat.le_of_lt hk') (fun v W hb h=>(yW hl h (s.up hb))) iiz (fun v W h=>by rw [zND] at h;exact h))<|zE)
  zA7 fun a w5 hbw s hr=> ?_
 replace hwb:=hwb.trans (hbw.mono hwb.size)
 refine zEk (i:=8) (x:= .tmp 22) (y:= .tmp 25) (pvs m (ps.take kk)) hwb s sg (zB6.mono (hr (_,_) mz4) hz) rfl (zBn rfl) (by kernel_rfl) (by kernel_rfl) (by kernel_rfl) rfl (hr (_,_) mz7) (zLr _ _) (by simp;omega) so fun v26 a w6 hwb hN26 s=> ?_
 have hR26:=hN26.row
 rw [zQc] at hR26
 have hz:=hwb.size
 refine zA4 [] [9] ((4, .u (UF.eq v26)):: []) (zE9 hwb) s (by kernel_rfl)
  (oc zG<|zE)
  zA7 fun a w7 hbw s hr=> ?_
 replace hwb:=hwb.trans (hbw.mono hwb.size)
 refine zCE (by kernel_rfl) ?_
 refine wpIn_ret ?_
 exact StS.resN s (Below.refl _ _) (t:=4) rfl (by rw [s.val (.head _)];exact ⟨kk,hk,(SF.row 6 _).st _ _ _ hR26 hbw⟩)
theorem zNx {m:Nat} {W:World} {l:Value} {ps:List V2} (hl:(SF.row 6 (pvs m ps)).p l W) (hn:ps.length≤1000000):Calls Tryz.prog 40 #[l] W (Ret W (SF.row 6 (pvs m (zFS ps)))):=by
 refine z7 [(UF.eq l).toSF] Tryz.func40 rfl (by kernel_rfl) ⟨rfl,trivial⟩ fun a s=> ?_
 replace s:=s.renew [(0, .u (UF.eq l))] (fmz ⟨.inr ⟨_,rfl, .head _⟩,fnz⟩)
 refine wpIn_seq ?_
 refine zB 1 ((2, .u (UF.eq (.slice none 0 0))):: []) hmix s (by kernel_rfl)
  (oc zG<|zE) fun a w1 s=> ?_
 refine zA rfl ?_
 refine wpIn_seq ?_
 refine zB 1 ((3, .u (UF.eq (.slice none 0 0))):: []) hmix s (by kernel_rfl)
  (oc zG<|zE) fun a w2 s=> ?_
 refine zA rfl ?_
 refine wpIn_seq ?_
 refine wpIn_seq ?_
 refine zB 1 ((4, .u (UF.eq (.int .i64 0))):: []) hmix s (by kernel_rfl)
  (oc zG<|zE) fun a w3 s=> ?_
 refine zA rfl ?_
 refine wpIn_block ?_
 obtain ⟨base,hbase⟩: ∃b,b=w3.heap.size:=⟨_,rfl⟩
 have hb0:W.heap.size≤base:=by rw [hbase];exact s.gr.size
 have hsz0:base≤w3.heap.size:=by rw [hbase];exact Nat.le_refl _
 refine zFL (fun (p:Nat×Value) w=>p.1≤ps.length∧base≤w.heap.size∧zB6 w base 30 6 p.2 (pvs m ((zFS ps).take p.1))) (fun p=> [(0, .u (UF.eq l)),(3, .u (UF.eq (p.2))),(4, .u (UF.eq (.int .i64 ((p.1:Nat):Int))))]) (fun p=>ps.length - p.1) (0, .slice none 0 0) (⟨Nat.zero_le _,hsz0,zB6.nil _ _ _ _⟩) (s.keepK _ (fmz ⟨mz3,fmz ⟨mz1,fmz ⟨.head _,fnz⟩⟩⟩)) fun p a w hI s=> ?_
 have s0:=s
 have hlw:=(SF.row 6 (pvs m ps)).st _ _ _ hl s0.below
 replace s:=s.reb rfl [(0, .u (UF.eq l)),(3, .u (UF.eq (p.2))),(4, .u (UF.eq (.int .i64 ((p.1:Nat):Int))))] (fmz ⟨.inl (.head _),fmz ⟨.inl mz1,fmz ⟨.inl mz2,fnz⟩⟩⟩)
 refine wpIn_seq ?_
 refine wpIn_seq ?_
 refine zB 4 ((5, .s ((UF.eq (.int .i64 ((p.1:Nat):Int))).toSF))::(6, .s ((UF.eq l).toSF))::(7, .s ((UF.eq (.int .i64 (((pvs m ps).length:Nat):Int))).toSF))::(8, .u (UF.eq (.bool (decide (((p.1:Nat):Int)<(((pvs m ps).length:Nat):Int)))))):: []) hmix s (by kernel_rfl)
  (oc zC<|oc zC<|oc (y6 (z:=6) (Cs:=pvs m ps) (by kernel_rfl) (fun v W hb h=>(yW hlw h (s.up hb))) (fun _=>rfl))<|oc (zQ .i64 ((p.1:Nat):Int) (((pvs m ps).length:Nat):Int) (decide (((p.1:Nat):Int)<(((pvs m ps).length:Nat):Int))) iiz iiz rfl rfl)<|zE) fun a w4 s=> ?_
 refine zA rfl ?_
 refine StS.cond s (decide (((p.1:Nat):Int)<(((pvs m ps).length:Nat):Int))) iiz (fun e=> ?_) (fun e=> ?_)
 ·have hk:p.1<ps.length:=by have:=of_decide_eq_true e;simp at this;omega
  have hj:((ps.length - p.1) % ps.length)<ps.length:=Nat.mod_lt _ (by omega)
  have hlz:(pvs m ps).length=ps.length:=by simp
  refine wpIn_skip ?_
  refine wpIn_seq ?_
  refine wpIn_block ?_
  refine zER 12 ((11, .u (UF.eq (p.2)))::(12, .s ((UF.eq l).toSF))::(13, .s ((UF.eq l).toSF))::(14, .s ((UF.eq (.int .i64 (((pvs m ps).length:Nat):Int))).toSF))::(15, .s ((UF.eq (.int .i64 ((p.1:Nat):Int))).toSF))::(16, .s ((UF.eq (.int .i64 ((ps.length - p.1:Nat):Int))).toSF))::(17, .s ((UF.eq l).toSF))::(18, .s ((UF.eq (.int .i64 (((pvs m ps).length:Nat):Int))).toSF))::(19, .s ((UF.eq (.int .i64 ((((ps.length - p.1) % ps.length):Nat):Int))).toSF))::(20, .s (SF.ptr (CU.agg (fPV m (at_ ps ((ps.length - p.1) % ps.length)))).cf))::(21, .s ((fPV m (at_ ps ((ps.length - p.1) % ps.length))).toSF))::(22, .s (SF.row 6 [CU.agg (fPV m (at_ ps ((ps.length - p.1) % ps.length)))])):: []) s (by kernel_rfl)
   (oc zC<|oc zC<|oc zC<|oc (y6 (z:=6) (Cs:=pvs m ps) (by kernel_rfl) (fun v W hb h=>(yW hlw h (s.up hb))) (fun _=>rfl))<|oc zC<|oc (zEZ .i64 (((pvs m ps).length:Nat):Int) ((p.1:Nat):Int) ((ps.length - p.1:Nat):Int) iiz iiz (by rw [hlz,IntKind.wrap_i64];omega))<|oc zC<|oc (y6 (z:=6) (Cs:=pvs m ps) (by kernel_rfl) (fun v W hb h=>(yW hlw h (s.up hb))) (fun _=>rfl))<|oc (zCU .i64 ((ps.length - p.1:Nat):Int) (((pvs m ps).length:Nat):Int) ((((ps.length - p.1) % ps.length):Nat):Int) iiz iiz (by omega) (by rw [hlz];exact zPP _ _))<|oc (jB (z:=6) (Cs:=pvs m ps) (i:=((ps.length - p.1) % ps.length)) (C:=CU.agg (fPV m (at_ ps ((ps.length - p.1) % ps.length)))) (by kernel_rfl) (jD hj) (fun v W hb h=>(yW hlw h (s.up hb))) iiz)<|oc (zK (f:=fPV m (at_ ps ((ps.length - p.1) % ps.length))) 6 (by kernel_rfl) (hz:=zP _ _))<|oc (zA2 (fun u W (hu:(fPV m (at_ ps ((ps.length - p.1) % ps.length))).p u W)=>zGI hu))<|zE) fun a w5 s hr=> ?_
  refine zPA ([CU.agg (fPV m (at_ ps ((ps.length - p.1) % ps.length)))]) s0 (s.keepK [(11, .u (UF.eq (p.2))),(8, .u (UF.eq (.bool (decide (((p.1:Nat):Int)<(((pvs m ps).length:Nat):Int)))))),(0, .u (UF.eq l)),(3, .u (UF.eq (p.2))),(4, .u (UF.eq (.int .i64 ((p.1:Nat):Int))))] (fmz ⟨.head _,fmz ⟨mz1,fmz ⟨mz2,fmz ⟨mz3,fmz ⟨mz4,fnz⟩⟩⟩⟩⟩)) hb0 hI.2 rfl (by kernel_rfl) (by kernel_rfl) (by kernel_rfl) (s.fct (.tmp 11)) (hr (_,_) zUj) (zLE _ _) (by simp [zDG];omega) (fun q hq=>by cases hq) fun v' a w hI' s=> ?_
  have s1:=s
  replace s:=s.reb rfl [(23, .u (UF.eq v')),(11, .u (UF.eq (p.2))),(8, .u (UF.eq (.bool (decide (((p.1:Nat):Int)<(((pvs m ps).length:Nat):Int)))))),(0, .u (UF.eq l)),(3, .u (UF.eq (p.2))),(4, .u (UF.eq (.int .i64 ((p.1:Nat):Int))))] (fmz ⟨.inl (.head _),fmz ⟨.inl mz1,fmz ⟨.inl mz2,fmz ⟨.inl mz3,fmz ⟨.inl mz4,fmz ⟨.inl mz5,fnz⟩⟩⟩⟩⟩⟩)
  replace s:=s.drop [3]
  refine yU (UF.eq v') rfl s (by kernel_rfl) iiz fun a w s=> ?_
  refine zA rfl ?_
  refine qC 2 ((9, .s ((UF.eq (.int .i64 ((p.1:Nat):Int))).toSF))::(10, .u (UF.eq (.int .i64 ((p.1+1:Nat):Int)))):: []) s (by kernel_rfl)
   (oc zC<|oc (y7 .i64 ((p.1:Nat):Int) 1 ((p.1+1:Nat):Int) iiz iiz (wrap64 _ _ (by omega) (by omega)))<|zE) fun a w6 s=> ?_
  replace s:=s.drop [4]
  refine yU (UF.eq (.int .i64 ((p.1+1:Nat):Int))) rfl s (by kernel_rfl) iiz fun a w s=> ?_
  refine zA rfl ?_
  have hbw:=s.below
  replace s:=s1.back (s.keepK [(4, .u (UF.eq (.int .i64 ((p.1+1:Nat):Int)))),(10, .u (UF.eq (.int .i64 ((p.1+1:Nat):Int)))),(3, .u (UF.eq v')),(23, .u (UF.eq v')),(11, .u (UF.eq (p.2))),(8, .u (UF.eq (.bool (decide (((p.1:Nat):Int)<(((pvs m ps).length:Nat):Int)))))),(0, .u (UF.eq l))] (fmz ⟨.head _,fmz ⟨mz1,fmz ⟨mz2,fmz ⟨mz3,fmz ⟨mz4,fmz ⟨mz5,fmz ⟨mz6,fnz⟩⟩⟩⟩⟩⟩⟩)) rfl
  exact ⟨(p.1+1,v'),(by show ps.length - (p.1+1)<ps.length - p.1;omega),⟨hk,Nat.le_trans hI'.1 hbw.size,by rw [zNj hk];exact hI'.2.below hbw⟩,s.keepK _ (fmz ⟨mz6,fmz ⟨mz2,fmz ⟨.head _,fnz⟩⟩⟩)⟩
 ·have hk:p.1=ps.length:=by have h7:=of_decide_eq_false e;have h8:=hI.1;simp at h7;omega
  refine wpIn_exit ?_
  refine wpIn_seq ?_
  refine zB 2 ((24, .s ((UF.eq (p.2)).toSF))::(2, .u (UF.eq (p.2))):: []) hmix s (by kernel_rfl)
   (oc zC<|oc zG<|zE) fun a w7 s=> ?_
  refine zA rfl ?_
  refine wpIn_ret ?_
  exact StS.resN s s0.below rfl (by rw [s.val (.head _)];have:=((hI.2.2.below s.below).mono hb0).row;rw [hk,List.take_of_length_le (by rw [zDG];exact Nat.le_refl _)] at this;exact this)
theorem zLd {m:Nat} {W:World} {l v:Value} {t:V2} {ps:List V2} (h1:(fPV m t).p v W) (hl:(SF.row 6 (pvs m ps)).p l W) (hm:m≤900) (hm0:0<m) (hps:ps.length≤1000000):Calls Tryz.prog 41 #[v,l] W (Ret W (SF.row 6 (pns (zBq ps t)))):=by
 have hq:=zRB hm0 hl
 have ht:=zCh hm0 h1
 refine z7 [(fPV m t).toSF,(UF.eq l).toSF] Tryz.func41 rfl (by kernel_rfl) ⟨h1,rfl,trivial⟩ fun a s=> ?_
 replace s:=s.renew [(0, .u (fPV m t)),(1, .u (UF.eq l))] (fmz ⟨.inr ⟨_,rfl, .head _⟩,fmz ⟨.inr ⟨_,rfl,mz1⟩,fnz⟩⟩)
 refine wpIn_seq ?_
 refine zB 0 [] hmix s (by kernel_rfl)
  zE fun a w1 s=> ?_
 refine yJ (CU.agg (fPV m t)) rfl s (by kernel_rfl) (fun v W h=>yP h) fun b2 a w s=> ?_
 refine yU (UF.eq (.slice none 0 0)) rfl s (by kernel_rfl) iiz fun a w s=> ?_
 refine zA rfl ?_
 refine wpIn_seq ?_
 refine zB 1 ((5, .u (UF.eq (.slice none 0 0))):: []) hmix s (by kernel_rfl)
  (oc zG<|zE) fun a w2 s=> ?_
 refine zA rfl ?_
 refine wpIn_seq ?_
 refine wpIn_seq ?_
 refine zB 1 ((6, .u (UF.eq (.int .i64 0))):: []) hmix s (by kernel_rfl)
  (oc zG<|zE) fun a w3 s=> ?_
 refine zA rfl ?_
 refine wpIn_block ?_
 replace s:StS _ _ _ [⟨2,30,CU.agg (fPV m t),b2,true⟩] _ _ _ _:=s.freeze
 obtain ⟨base,hbase⟩: ∃b,b=w3.heap.size:=⟨_,rfl⟩
 have hb2:b2<base:=by rw [hbase];exact s.old _ (.head _)
 have hb0:W.heap.size≤base:=by rw [hbase];exact s.gr.size
 have hsz0:base≤w3.heap.size:=by rw [hbase];exact Nat.le_refl _
 refine zFL (fun (p:Nat×Value) w=>p.1≤ps.length∧base≤w.heap.size∧zB6 w base 30 6 p.2 (pns ((zBq ps t).take p.1))) (fun p=> [(1, .u (UF.eq l)),(5, .u (UF.eq (p.2))),(6, .u (UF.eq (.int .i64 ((p.1:Nat):Int))))]) (fun p=>ps.length - p.1) (0, .slice none 0 0) (⟨Nat.zero_le _,hsz0,zB6.nil _ _ _ _⟩) (s.keepK _ (fmz ⟨mz4,fmz ⟨mz1,fmz ⟨.head _,fnz⟩⟩⟩)) fun p a w hI s=> ?_
 have s0:=s
 have hlw:=(SF.row 6 (pvs m ps)).st _ _ _ hl s0.below
 replace s:=s.reb rfl [(1, .u (UF.eq l)),(5, .u (UF.eq (p.2))),(6, .u (UF.eq (.int .i64 ((p.1:Nat):Int))))] (fmz ⟨.inl (.head _),fmz ⟨.inl mz1,fmz ⟨.inl mz2,fnz⟩⟩⟩)
 refine wpIn_seq ?_
 refine wpIn_seq ?_
 refine zB 4 ((7, .s ((UF.eq (.int .i64 ((p.1:Nat):Int))).toSF))::(8, .s ((UF.eq l).toSF))::(9, .s ((UF.eq (.int .i64 (((pvs m ps).length:Nat):Int))).toSF))::(10, .u (UF.eq (.bool (decide (((p.1:Nat):Int)<(((pvs m ps).length:Nat):Int)))))):: []) hmix s (by kernel_rfl)
  (oc zC<|oc zC<|oc (y6 (z:=6) (Cs:=pvs m ps) (by kernel_rfl) (fun v W hb h=>(yW hlw h (s.up hb))) (fun _=>rfl))<|oc (zQ .i64 ((p.1:Nat):Int) (((pvs m ps).length:Nat):Int) (decide (((p.1:Nat):Int)<(((pvs m ps).length:Nat):Int))) iiz iiz rfl rfl)<|zE) fun a w4 s=> ?_
 refine zA rfl ?_
 refine StS.cond s (decide (((p.1:Nat):Int)<(((pvs m ps).length:Nat):Int))) iiz (fun e=> ?_) (fun e=> ?_)
 ·have hk:p.1<ps.length:=by have:=of_decide_eq_true e;simp at this;omega
  refine wpIn_skip ?_
  refine wpIn_seq ?_
  refine wpIn_block ?_
  refine zD4 (K:= [(10, .u (UF.eq (.bool (decide (((p.1:Nat):Int)<(((pvs m ps).length:Nat):Int)))))),(1, .u (UF.eq l)),(6, .u (UF.eq (.int .i64 ((p.1:Nat):Int))))]) [(5, .u (UF.eq (p.2)))] [0,1,2] 8 ((13, .u (UF.eq (p.2)))::(14, .s ((UF.eq l).toSF))::(15, .s ((UF.eq (.int .i64 ((p.1:Nat):Int))).toSF))::(16, .s (SF.ptr (CU.agg (fPV m (at_ ps p.1))).cf))::(17, .s ((fPV m (at_ ps p.1)).toSF))::(18, .s ((fPV m t).toSF))::(19, .s ((fPN ((at_ ps p.1).1+t.1,(at_ ps p.1).2+t.2)).toSF))::(20, .s (SF.row 6 [CU.agg (fPN ((at_ ps p.1).1+t.1,(at_ ps p.1).2+t.2))])):: []) hmix (s.keepK _ (fmz ⟨mz2,fmz ⟨.head _,fmz ⟨mz1,fmz ⟨mz3,fnz⟩⟩⟩⟩)) (by kernel_rfl)
   (oc zC<|oc zC<|oc zC<|oc (jB (z:=6) (Cs:=pvs m ps) (i:=p.1) (C:=CU.agg (fPV m (at_ ps p.1))) (by kernel_rfl) (jD hk) (fun v W hb h=>(yW hlw h (s.up hb))) iiz)<|oc (zK (f:=fPV m (at_ ps p.1)) 6 (by kernel_rfl) (hz:=zP _ _))<|oc (zK (f:=fPV m t) 6 (by kernel_rfl) (hz:=zP _ _))<|oc (zH zD zQN (fun u0 u1 W hb (h0:(fPV m (at_ ps p.1)).p u0 W) (h1:(fPV m t).p u1 W)=>zHN (m:=m) (p:=at_ ps p.1) (q:=t) h0 h1 (hq _ (zDB hk)) ht (by omega)))<|oc (zA2 (fun u W (hu:(fPN ((at_ ps p.1).1+t.1,(at_ ps p.1).2+t.2)).p u W)=>zGI hu))<|zE) fun Q' hQ a w5 s hr=> ?_
  refine zPA ([CU.agg (fPN ((at_ ps p.1).1+t.1,(at_ ps p.1).2+t.2))]) s0 (s.keepK [(13, .u (UF.eq (p.2))),(10, .u (UF.eq (.bool (decide (((p.1:Nat):Int)<(((pvs m ps).length:Nat):Int)))))),(1, .u (UF.eq l)),(6, .u (UF.eq (.int .i64 ((p.1:Nat):Int))))] (fmz ⟨.head _,fmz ⟨mz1,fmz ⟨mz2,fmz ⟨mz3,fnz⟩⟩⟩⟩)) hb0 hI.2 rfl (by kernel_rfl) (by kernel_rfl) (by kernel_rfl) (s.fct (.tmp 13)) (hr (_,_) mz7) (zLE _ _) (by simp [zBp];omega) (fun q hq hr=>by rcases List.mem_cons.1 hq with rfl|hq;exact hb2;cases hq) fun v' a w hI' s=> ?_
  have s1:=s
  replace s:StS _ _ _ [⟨2,30,CU.agg (fPV m t),b2,true⟩] _ _ _ _:=s.freeze
  replace s:=s.reb rfl [(21, .u (UF.eq v')),(13, .u (UF.eq (p.2))),(10, .u (UF.eq (.bool (decide (((p.1:Nat):Int)<(((pvs m ps).length:Nat):Int)))))),(1, .u (UF.eq l)),(6, .u (UF.eq (.int .i64 ((p.1:Nat):Int))))] (fmz ⟨.inl (.head _),fmz ⟨.inl mz1,fmz ⟨.inl mz2,fmz ⟨.inl mz3,fmz ⟨.inl mz4,fnz⟩⟩⟩⟩⟩)
  refine yU (UF.eq v') rfl s (by kernel_rfl) iiz fun a w s=> ?_
  refine zA rfl (hQ _ _ ?_)
  refine qC 2 ((11, .s ((UF.eq (.int .i64 ((p.1:Nat):Int))).toSF))::(12, .u (UF.eq (.int .i64 ((p.1+1:Nat):Int)))):: []) s (by kernel_rfl)
   (oc zC<|oc (y7 .i64 ((p.1:Nat):Int) 1 ((p.1+1:Nat):Int) iiz iiz (wrap64 _ _ (by omega) (by omega)))<|zE) fun a w6 s=> ?_
  replace s:=s.drop [6]
  refine yU (UF.eq (.int .i64 ((p.1+1:Nat):Int))) rfl s (by kernel_rfl) iiz fun a w s=> ?_
  refine zA rfl ?_
  have hbw:=s.below
  replace s:=s1.back (s.keepK [(6, .u (UF.eq (.int .i64 ((p.1+1:Nat):Int)))),(12, .u (UF.eq (.int .i64 ((p.1+1:Nat):Int)))),(5, .u (UF.eq v')),(21, .u (UF.eq v')),(13, .u (UF.eq (p.2))),(10, .u (UF.eq (.bool (decide (((p.1:Nat):Int)<(((pvs m ps).length:Nat):Int)))))),(1, .u (UF.eq l))] (fmz ⟨.head _,fmz ⟨mz1,fmz ⟨mz2,fmz ⟨mz3,fmz ⟨mz4,fmz ⟨mz5,fmz ⟨mz6,fnz⟩⟩⟩⟩⟩⟩⟩)) rfl
  exact ⟨(p.1+1,v'),(by show ps.length - (p.1+1)<ps.length - p.1;omega),⟨hk,Nat.le_trans hI'.1 hbw.size,by rw [zLv hk];exact hI'.2.below hbw⟩,s.keepK _ (fmz ⟨mz6,fmz ⟨mz2,fmz ⟨.head _,fnz⟩⟩⟩)⟩
 ·have hk:p.1=ps.length:=by have h7:=of_decide_eq_false e;have h8:=hI.1;simp at h7;omega
  refine wpIn_exit ?_
  refine wpIn_seq ?_
  refine zB 2 ((22, .s ((UF.eq (p.2)).toSF))::(4, .u (UF.eq (p.2))):: []) hmix s (by kernel_rfl)
   (oc zC<|oc zG<|zE) fun a w7 s=> ?_
  refine zA rfl ?_
  refine wpIn_ret ?_
  exact StS.resN s s0.below rfl (by rw [s.val (.head _)];have:=((hI.2.2.below s.below).mono hb0).row;rw [hk,List.take_of_length_le (by rw [zBp];exact Nat.le_refl _)] at this;exact this)
end Go.Proofs.Wd

namespace Go.Proofs.Wd
set_option maxRecDepth 100000
set_option maxHeartbeats 1000000
open Go.RowKit Lb
def zCH (L:List PX) (k:Nat):Nat:=((L.take k).map fun x=>min (PX.b x) 1000).sum
theorem zBO {L:List PX} {k:Nat} {x:PX} (h:L[k]?=some x):zCH L (k+1)=zCH L k+min (PX.b x) 1000:=by
 unfold zCH
 rw [List.take_add_one,h]
 simp
theorem zQA (L:List PX) (k:Nat):zCH L k≤1000*k:=by
 induction k with
 |zero=>simp [zCH]
 | succ k ih=>
  cases h:L[k]? with
  |none=>
   have:zCH L (k+1)=zCH L k:=by unfold zCH;rw [List.take_add_one,h];simp
   omega
  |some x=>
   rw [zBO h]
   omega
theorem zJl {L:List PX} {k i:Nat} {x:PX} (h:L[i]?=some x) (hi:i<k):min (PX.b x) 1000≤zCH L k:=by
 induction k with
 |zero=>omega
 | succ k ih=>
  by_cases e:i=k
  ·subst e;rw [zBO h];omega
  ·have h1:=ih (by omega)
   cases h2:L[k]? with
   |none=>
    have:zCH L (k+1)=zCH L k:=by unfold zCH;rw [List.take_add_one,h2];simp
    omega
   |some y=>rw [zBO h2];omega
def g13 (L:List PX):Bool:=decide ((((pxs L).length:Nat):Int)>20)||decide (((zCH L (min (pxs L).length 21):Nat):Int)>80)
theorem zQC {L:List PX} (h:g13 L=false):L.length≤20∧ ∀x,x∈L→PX.b x≤80:=by
 unfold g13 at h
 rw [Bool.or_eq_false_iff] at h
 have h1:=of_decide_eq_false h.1
 have h2:=of_decide_eq_false h.2
 rw [List.length_map] at h1 h2
 refine ⟨by omega,fun x hx=> ?_⟩
 obtain ⟨i,hi⟩:=List.getElem?_of_mem hx
 have hlt:=(List.getElem?_eq_some_iff.1 hi).1
 have h3:=zJl hi (k:=min L.length 21) (by omega)
 omega
theorem zLq {x:PX} (h:PX.b x≤80) {v:Value} {W:World} (hv:x.u.p v W):(fPV 80 x.p).p v W:=by
 unfold PX.b at h
 exact zF1 (fun v W h'=>zQY h' (by omega) (by omega)) (fun v W h'=>zQY h' (by omega) (by omega)) hv
theorem zLp {L:List PX} (h: ∀x,x∈L→PX.b x≤80) (v:Value) (W:World) (hv:(SF.row 6 (pxs L)).p v W):(SF.row 6 (pvs 80 (pps L))).p v W:=
 zHK (by simp) (fun i C D hC hD cs W hh=>by
  have hi:i<L.length:=by have:=(List.getElem?_eq_some_iff.1 hC).1;simpa using this
  rw [List.getElem?_map,List.getElem?_eq_getElem hi] at hC
  rw [List.getElem?_map,List.getElem?_map,List.getElem?_eq_getElem hi] at hD
  cases hC;cases hD
  exact zLq (h _ (List.getElem_mem hi)) hh) v W hv
theorem zJT {L:List PX} {W:World} {v:Value} (hl:(SF.row 6 (pxs L)).p v W) (hL: ∀x,x∈L→PX.b x≤1048576):Calls Tryz.prog 29 #[v] W (Ret W (fB (g13 L)).toSF):=by
 refine z7 [SF.row 6 (pxs L)] Tryz.func29 rfl (by kernel_rfl) ⟨hl,trivial⟩ fun a s=> ?_
 refine wpIn_seq ?_
 refine zB 1 ((2, .u (UF.eq (.bool false))):: []) hmix s (by kernel_rfl)
  (oc zG<|zE) fun a w1 s=> ?_
 refine zA rfl ?_
 refine wpIn_seq ?_
 refine zB 1 ((3, .u (UF.eq (.int .i64 0))):: []) hmix s (by kernel_rfl)
  (oc zG<|zE) fun a w2 s=> ?_
 refine zA rfl ?_
 refine wpIn_seq ?_
 refine wpIn_seq ?_
 refine zB 1 ((4, .u (UF.eq (.int .i64 0))):: []) hmix s (by kernel_rfl)
  (oc zG<|zE) fun a w3 s=> ?_
 refine zA rfl ?_
 refine wpIn_block ?_
 refine zKB (min (pxs L).length 21) 4 (fun k=> [(0, .o (SF.row 6 (pxs L))),(4, .u (UF.eq (.int .i64 ((k:Nat):Int)))),(3, .u (UF.eq (.int .i64 ((zCH L k:Nat):Int))))]) (fun k=>mz1) (s.keepK _ (fmz ⟨mz3,fmz ⟨.head _,fmz ⟨mz1,fnz⟩⟩⟩)) fun k a w hk s=> ?_
 refine wpIn_seq ?_
 refine wpIn_seq ?_
 refine zB 8 ((5, .s ((UF.eq (.int .i64 ((k:Nat):Int))).toSF))::(6, .s (SF.row 6 (pxs L)))::(7, .s ((UF.eq (.int .i64 (((pxs L).length:Nat):Int))).toSF))::(8, .s ((UF.eq (.bool (decide (((k:Nat):Int)<(((pxs L).length:Nat):Int))))).toSF))::(9, .s ((UF.eq (.bool (decide (((k:Nat):Int)<(((pxs L).length:Nat):Int))))).toSF))::(10, .s (SF.imp ((decide (((k:Nat):Int)<(((pxs L).length:Nat):Int)))=true) ((UF.eq (.int .i64 ((k:Nat):Int))).toSF)))::(11, .s (SF.imp ((decide (((k:Nat):Int)<(((pxs L).length:Nat):Int)))=true) ((UF.eq (.bool (decide (((k:Nat):Int)≤20)))).toSF)))::(12, .u (UF.eq (.bool ((decide (((k:Nat):Int)<(((pxs L).length:Nat):Int)))&&(decide (((k:Nat):Int)≤20)))))):: []) hmix s (by kernel_rfl)
  (oc zC<|oc zC<|oc (zCm (z:=6) (Cs:=pxs L) (by kernel_rfl) iiz (fun _=>rfl))<|oc (zQ .i64 ((k:Nat):Int) (((pxs L).length:Nat):Int) (decide (((k:Nat):Int)<(((pxs L).length:Nat):Int))) iiz iiz rfl rfl)<|oc zC<|oc (zF 9 (decide (((k:Nat):Int)<(((pxs L).length:Nat):Int))) (by kernel_rfl) iiz (fun e=>zR [] ((UF.eq (.int .i64 ((k:Nat):Int))).toSF) fnz (fun _ _ h _=>h) (by kernel_rfl) zC) (fun e W h=>absurd h e))<|oc (zF 9 (decide (((k:Nat):Int)<(((pxs L).length:Nat):Int))) (by kernel_rfl) iiz (fun e=>zR [(10,(UF.eq (.int .i64 ((k:Nat):Int))).toSF)] ((UF.eq (.bool (decide (((k:Nat):Int)≤20)))).toSF) (fmz ⟨fun v W h=>zJ (c:=(decide (((k:Nat):Int)<(((pxs L).length:Nat):Int)))=true) (f:=(UF.eq (.int .i64 ((k:Nat):Int))).toSF) e h,fnz⟩) (fun _ _ h _=>h) (by kernel_rfl) (zQ .i64 ((k:Nat):Int) 20 (decide (((k:Nat):Int)≤20)) iiz iiz rfl rfl)) (fun e W h=>absurd h e))<|oc (yF (decide (((k:Nat):Int)<(((pxs L).length:Nat):Int))) iiz (fun e v W h=>jQ (zJ e h) e) (fun e v W h=>qY h e))<|zE) fun a w4 s=> ?_
 refine zA rfl ?_
 refine StS.cond s ((decide (((k:Nat):Int)<(((pxs L).length:Nat):Int)))&&(decide (((k:Nat):Int)≤20))) iiz (fun e=> ?_) (fun e=> ?_)
 ·rw [Bool.and_eq_true] at e
  have hk1:=of_decide_eq_true e.1
  have hk2:=of_decide_eq_true e.2
  have hk3:k<L.length:=by rw [List.length_map] at hk1;omega
  obtain ⟨x,hxl⟩: ∃x,L[k]?=some x:=⟨_,List.getElem?_eq_getElem hk3⟩
  have hx:(pxs L)[k]?=some (PX.cu x):=by rw [List.getElem?_map,hxl];rfl
  have hxm:=hL x (List.mem_of_getElem? hxl)
  have hgs:=zBO hxl
  have hgl:=zQA L k
  unfold PX.b at hxm hgs
  refine wpIn_skip ?_
  refine wpIn_seq ?_
  refine wpIn_block ?_
  refine zES (K:= [(12, .u (UF.eq (.bool ((decide (((k:Nat):Int)<(((pxs L).length:Nat):Int)))&&(decide (((k:Nat):Int)≤20)))))),(0, .o (SF.row 6 (pxs L))),(4, .u (UF.eq (.int .i64 ((k:Nat):Int))))]) [(3, .u (UF.eq (.int .i64 ((zCH L k:Nat):Int))))] [0,1,2,9,10,17,18,26,27] 36 ((15, .s ((UF.eq (.int .i64 ((zCH L k:Nat):Int))).toSF))::(16, .s (SF.row 6 (pxs L)))::(17, .s ((UF.eq (.int .i64 ((k:Nat):Int))).toSF))::(18, .s (SF.ptr (PX.cu x).cf))::(19, .s (SF.ptr ((PX.cu x).cf.at 0)))::(20, .s (SF.ptr ((PX.cu x).cf.at 0)))::(21, .s (SF.ptr ((PX.cu x).cf.at 1)))::(22, .s ((fSl (x.1.n)).toSF))::(23, .s ((UF.eq (.int .i64 ((x.1.n:Nat):Int))).toSF))::(24, .s (SF.row 6 (pxs L)))::(25, .s ((UF.eq (.int .i64 ((k:Nat):Int))).toSF))::(26, .s (SF.ptr (PX.cu x).cf))::(27, .s (SF.ptr ((PX.cu x).cf.at 0)))::(28, .s (SF.ptr ((PX.cu x).cf.at 2)))::(29, .s ((fSl (x.1.n')).toSF))::(30, .s ((UF.eq (.int .i64 ((x.1.n':Nat):Int))).toSF))::(31, .s ((UF.eq (.int .i64 ((x.1.n+x.1.n':Nat):Int))).toSF))::(32, .s (SF.row 6 (pxs L)))::(33, .s ((UF.eq (.int .i64 ((k:Nat):Int))).toSF))::(34, .s (SF.ptr (PX.cu x).cf))::(35, .s (SF.ptr ((PX.cu x).cf.at 3)))::(36, .s (SF.ptr ((PX.cu x).cf.at 3)))::(37, .s (SF.ptr ((PX.cu x).cf.at 4)))::(38, .s ((fSl (x.2.n)).toSF))::(39, .s ((UF.eq (.int .i64 ((x.2.n:Nat):Int))).toSF))::(40, .s ((UF.eq (.int .i64 ((x.1.n+x.1.n'+x.2.n:Nat):Int))).toSF))::(41, .s (SF.row 6 (pxs L)))::(42, .s ((UF.eq (.int .i64 ((k:Nat):Int))).toSF))::(43, .s (SF.ptr (PX.cu x).cf))::(44, .s (SF.ptr ((PX.cu x).cf.at 3)))::(45, .s (SF.ptr ((PX.cu x).cf.at 5)))::(46, .s ((fSl (x.2.n')).toSF))::(47, .s ((UF.eq (.int .i64 ((x.2.n':Nat):Int))).toSF))::(48, .s ((UF.eq (.int .i64 ((x.1.n+x.1.n'+x.2.n+x.2.n':Nat):Int))).toSF))::(49, .s ((UF.eq (.int .i64 (min ((x.1.n+x.1.n'+x.2.n+x.2.n':Nat):Int) 1000))).toSF))::(50, .u (UF.eq (.int .i64 ((zCH L (k+1):Nat):Int)))):: []) hmix (s.keepK _ (fmz ⟨mz3,fmz ⟨.head _,fmz ⟨mz1,fmz ⟨mz2,fnz⟩⟩⟩⟩)) (by kernel_rfl)
   (oc zC<|oc zC<|oc zC<|oc (zAK (z:=6) (Cs:=pxs L) (i:=k) (C:=PX.cu x) (by kernel_rfl) hx iiz iiz)<|oc (zN (C:=(PX.cu x).cf) 0 (by kernel_rfl))<|oc (yT (C:=(PX.cu x).cf) 0 0 (by kernel_rfl))<|oc (yT (C:=(PX.cu x).cf) 0 1 (by kernel_rfl))<|oc (jE (C:=(PX.cu x).cf) (k:=1) (by kernel_rfl) (h:=zUg))<|oc (zD7 (by kernel_rfl) (fun v W ⟨A,c,e⟩=>⟨A,x.1.n,c,e,rfl⟩))<|oc zC<|oc zC<|oc (zAK (z:=6) (Cs:=pxs L) (i:=k) (C:=PX.cu x) (by kernel_rfl) hx iiz iiz)<|oc (zN (C:=(PX.cu x).cf) 0 (by kernel_rfl))<|oc (yT (C:=(PX.cu x).cf) 0 2 (by kernel_rfl))<|oc (jE (C:=(PX.cu x).cf) (k:=2) (by kernel_rfl) (h:=zUf))<|oc (zD7 (by kernel_rfl) (fun v W ⟨A,c,e⟩=>⟨A,x.1.n',c,e,rfl⟩))<|oc (y7 .i64 ((x.1.n:Nat):Int) ((x.1.n':Nat):Int) ((x.1.n+x.1.n':Nat):Int) iiz iiz (wrap64 _ _ (by omega) (by omega)))<|oc zC<|oc zC<|oc (zAK (z:=6) (Cs:=pxs L) (i:=k) (C:=PX.cu x) (by kernel_rfl) hx iiz iiz)<|oc (zN (C:=(PX.cu x).cf) 3 (by kernel_rfl))<|oc (yT (C:=(PX.cu x).cf) 3 0 (by kernel_rfl))<|oc (yT (C:=(PX.cu x).cf) 3 1 (by kernel_rfl))<|oc (jE (C:=(PX.cu x).cf) (k:=4) (by kernel_rfl) (h:=zUe))<|oc (zD7 (by kernel_rfl) (fun v W ⟨A,c,e⟩=>⟨A,x.2.n,c,e,rfl⟩))<|oc (y7 .i64 ((x.1.n+x.1.n':Nat):Int) ((x.2.n:Nat):Int) ((x.1.n+x.1.n'+x.2.n:Nat):Int) iiz iiz (wrap64 _ _ (by omega) (by omega)))<|oc zC<|oc zC<|oc (zAK (z:=6) (Cs:=pxs L) (i:=k) (C:=PX.cu x) (by kernel_rfl) hx iiz iiz)<|oc (zN (C:=(PX.cu x).cf) 3 (by kernel_rfl))<|oc (yT (C:=(PX.cu x).cf) 3 2 (by kernel_rfl))<|oc (jE (C:=(PX.cu x).cf) (k:=5) (by kernel_rfl) (h:=zUd))<|oc (zD7 (by kernel_rfl) (fun v W ⟨A,c,e⟩=>⟨A,x.2.n',c,e,rfl⟩))<|oc (y7 .i64 ((x.1.n+x.1.n'+x.2.n:Nat):Int) ((x.2.n':Nat):Int) ((x.1.n+x.1.n'+x.2.n+x.2.n':Nat):Int) iiz iiz (wrap64 _ _ (by omega) (by omega)))<|oc (zLJ ((x.1.n+x.1.n'+x.2.n+x.2.n':Nat):Int) 1000 iiz iiz)<|oc (y7 .i64 ((zCH L k:Nat):Int) (min ((x.1.n+x.1.n'+x.2.n+x.2.n':Nat):Int) 1000) ((zCH L (k+1):Nat):Int) iiz iiz (wrap64 _ _ (by omega) (by omega)))<|zE) fun Q' hQ a w5 s=> ?_
  refine yU (UF.eq (.int .i64 ((zCH L (k+1):Nat):Int))) rfl s (by kernel_rfl) iiz fun a w s=> ?_
  refine zA rfl (hQ _ _ ?_)
  refine qC 2 ((13, .s ((UF.eq (.int .i64 ((k:Nat):Int))).toSF))::(14, .u (UF.eq (.int .i64 ((k+1:Nat):Int)))):: []) s (by kernel_rfl)
   (oc zC<|oc (y7 .i64 ((k:Nat):Int) 1 ((k+1:Nat):Int) iiz iiz (wrap64 _ _ (by omega) (by omega)))<|zE) fun a w6 s=> ?_
  replace s:=s.drop [4]
  refine yU (UF.eq (.int .i64 ((k+1:Nat):Int))) rfl s (by kernel_rfl) iiz fun a w s=> ?_
  refine zA rfl ?_
  exact ⟨by omega,s.keepK _ (fmz ⟨mz5,fmz ⟨.head _,fmz ⟨mz2,fnz⟩⟩⟩)⟩
 ·rw [Bool.and_eq_false_iff] at e
  have hkN:k=min (pxs L).length 21:=by
   rcases e with e|e
   ·have:=of_decide_eq_false e;omega
   ·have:=of_decide_eq_false e;omega
  refine wpIn_exit ?_
  refine wpIn_seq ?_
  refine zB 8 ((51, .s (SF.row 6 (pxs L)))::(52, .s ((UF.eq (.int .i64 (((pxs L).length:Nat):Int))).toSF))::(53, .s ((UF.eq (.bool (decide ((((pxs L).length:Nat):Int)>20)))).toSF))::(54, .s ((UF.eq (.bool (decide ((((pxs L).length:Nat):Int)>20)))).toSF))::(55, .s (SF.imp ((decide ((((pxs L).length:Nat):Int)>20))=false) ((UF.eq (.int .i64 ((zCH L k:Nat):Int))).toSF)))::(56, .s (SF.imp ((decide ((((pxs L).length:Nat):Int)>20))=false) ((UF.eq (.bool (decide (((zCH L k:Nat):Int)>80)))).toSF)))::(57, .s ((UF.eq (.bool ((decide ((((pxs L).length:Nat):Int)>20))||(decide (((zCH L k:Nat):Int)>80))))).toSF))::(2, .u (UF.eq (.bool ((decide ((((pxs L).length:Nat):Int)>20))||(decide (((zCH L k:Nat):Int)>80)))))):: []) hmix s (by kernel_rfl)
   (oc zC<|oc (zCm (z:=6) (Cs:=pxs L) (by kernel_rfl) iiz (fun _=>rfl))<|oc (zQ .i64 (((pxs L).length:Nat):Int) 20 (decide ((((pxs L).length:Nat):Int)>20)) iiz iiz rfl rfl)<|oc zC<|oc (zF 54 (decide ((((pxs L).length:Nat):Int)>20)) (by kernel_rfl) iiz (fun e=>zR [] ((UF.eq (.int .i64 ((zCH L k:Nat):Int))).toSF) fnz (fun _ _ h _=>h) (by kernel_rfl) zC) (fun e W h=>absurd h e))<|oc (zF 54 (decide ((((pxs L).length:Nat):Int)>20)) (by kernel_rfl) iiz (fun e=>zR [(55,(UF.eq (.int .i64 ((zCH L k:Nat):Int))).toSF)] ((UF.eq (.bool (decide (((zCH L k:Nat):Int)>80)))).toSF) (fmz ⟨fun v W h=>zJ (c:=(decide ((((pxs L).length:Nat):Int)>20))=false) (f:=(UF.eq (.int .i64 ((zCH L k:Nat):Int))).toSF) e h,fnz⟩) (fun _ _ h _=>h) (by kernel_rfl) (zQ .i64 ((zCH L k:Nat):Int) 80 (decide (((zCH L k:Nat):Int)>80)) iiz iiz rfl rfl)) (fun e W h=>absurd h e))<|oc (yF (decide ((((pxs L).length:Nat):Int)>20)) iiz (fun e v W h=>zCk h e) (fun e v W h=>zBA (zJ e h) e))<|oc zG<|zE) fun a w7 s=> ?_
  refine zA rfl ?_
  refine wpIn_ret ?_
  exact StS.res1 s (t:=2) rfl (fun _ _ h=>by rw [hkN] at h;exact h)
end Go.Proofs.Wd

namespace Go.Proofs.Wd
set_option maxRecDepth 100000
set_option maxHeartbeats 1000000
open Go.RowKit Lb
abbrev T3L:List V2:= [(((0:Int):Rat),((0:Int):Rat)),(((2:Int):Rat),((0:Int):Rat)),(((0:Int):Rat),((2:Int):Rat))]
abbrev hlf (x:Int):Rat:=((x:Rat)+((0:Int):Rat)) / 2
theorem zIR:QB (hlf 1) 1:=⟨by unfold Bd BB;decide+kernel,by unfold BB;decide+kernel⟩
theorem zS8: ∀p,p∈T3L→QB p.1 1∧QB p.2 1:=fun p hp=>by
 have h0:=qbz (z:=0) (by decide)
 have h2:=qbz (z:=2) (by decide)
 simp only [List.mem_cons,List.not_mem_nil,or_false] at hp
 rcases hp with rfl|rfl|rfl
 ·exact ⟨h0,h0⟩
 ·exact ⟨h2,h0⟩
 ·exact ⟨h0,h2⟩
theorem tw1:yD T3L (((1:Int):Rat),((0:Int):Rat))=0:=by kernel_rfl
theorem tw2:onI T3L (((1:Int):Rat),((0:Int):Rat))=0:=by kernel_rfl
theorem tw3:yD T3L (hlf 1,hlf 1)=1:=by kernel_rfl
theorem tw4:yD T3L (((2:Int):Rat),((2:Int):Rat))= -1:=by kernel_rfl
theorem tw5:(!(T3L.any (fun p=>decide (yD T3L p<0))))=true:=by kernel_rfl
theorem tw6:(!([at_ T3L 0].any (fun p=>yD T3L p !=1)))=false:=by kernel_rfl
theorem tw7:crN T3L (hlf 1,hlf 1)=1:=by kernel_rfl
theorem zPx {W:World}:Calls Tryz.prog 77 #[] W (Ret W (SF.row 6 (pns T3L))):=by
 refine z7 [] Tryz.func77 rfl (by kernel_rfl) trivial fun a s=> ?_
 refine wpIn_seq ?_
 refine zB 1 ((0, .u (UF.eq (.slice none 0 0))):: []) hmix s (by kernel_rfl)
  (oc zG<|zE) fun a w1 s=> ?_
 refine zA rfl ?_
 refine wpIn_seq ?_
 replace s:=s.drop [0]
 refine jW 5 ((1, .s ((fPN (((0:Int):Rat),((0:Int):Rat))).toSF))::(2, .s ((fPN (((2:Int):Rat),((0:Int):Rat))).toSF))::(3, .s ((fPN (((0:Int):Rat),((2:Int):Rat))).toSF))::(4, .s (SF.row 6 [CU.agg (fPN (((0:Int):Rat),((0:Int):Rat))),CU.agg (fPN (((2:Int):Rat),((0:Int):Rat))),CU.agg (fPN (((0:Int):Rat),((2:Int):Rat)))]))::(0, .s (SF.row 6 [CU.agg (fPN (((0:Int):Rat),((0:Int):Rat))),CU.agg (fPN (((2:Int):Rat),((0:Int):Rat))),CU.agg (fPN (((0:Int):Rat),((2:Int):Rat)))])):: []) hmix s (by kernel_rfl)
  (oc (zH zD zGn (fun u0 u1 W hb (h0:u0= .int .i64 0) (h1:u1= .int .i64 0)=>zDa h0 h1 (by decide) (by decide)))<|oc (zH zD zGn (fun u0 u1 W hb (h0:u0= .int .i64 2) (h1:u1= .int .i64 0)=>zDa h0 h1 (by decide) (by decide)))<|oc (zH zD zGn (fun u0 u1 W hb (h0:u0= .int .i64 0) (h1:u1= .int .i64 2)=>zDa h0 h1 (by decide) (by decide)))<|oc (zG2 (fun u v q W (hu:(fPN (((0:Int):Rat),((0:Int):Rat))).p u W) (hv:(fPN (((2:Int):Rat),((0:Int):Rat))).p v W) (hq:(fPN (((0:Int):Rat),((2:Int):Rat))).p q W)=>zRd hu hv hq))<|oc zG<|zE) fun a w2 s hr=> ?_
 refine zA rfl ?_
 refine wpIn_ret ?_
 exact StS.resN s (Below.refl _ _) (t:=0) rfl (hr (_,_) mz4)
theorem zJi {W:World} {u:Value} {x:Int} (hu:u= .int .i64 x) (hx1:x.natAbs<100):Calls Tryz.prog 122 #[u] W (Ret W (fQN (hlf x)).toSF):=by
 have hx: -9223372036854775808≤x∧x≤9223372036854775807:=by omega
 have hqx:=qbz hx1
 refine z7 [(UF.eq (.int .i64 x)).toSF] Tryz.func122 rfl (by kernel_rfl) ⟨hu,trivial⟩ fun a s=> ?_
 refine wpIn_seq ?_
 refine zB 0 [] hmix s (by kernel_rfl)
  zE fun a w1 s=> ?_
 refine zY (CU.len 3) (cs:=zR3) (by kernel_rfl) rfl s (by kernel_rfl) (fun W=>rfl) rfl fun b2 a w s=> ?_
 refine zA rfl ?_
 refine wpIn_seq ?_
 refine zB 4 ((3, .s ((UF.eq (.int .i64 x)).toSF))::(4, .s ((fQN ((x:Int):Rat)).toSF))::(5, .s ((fQN ((0:Int):Rat)).toSF))::(6, .u (fQN (hlf x))):: []) hmix s (by kernel_rfl)
  (oc zC<|oc (zI zD zGm (fun u0 W hb (h0:u0= .int .i64 x)=>zDb x h0 hx))<|oc (zI zD zGm (fun u0 W hb (h0:u0= .int .i64 0)=>zDb 0 h0 (by decide)))<|oc (zH zD zTA (fun u0 u1 W hb (h0:QNp ((x:Int):Rat) u0 W) (h1:QNp ((0:Int):Rat) u1 W)=>zP1 (m:=1) (QNp.rv h0 hqx) (QNp.rv h1 (qbz (by decide))) (by decide) (by decide)))<|zE) fun a w2 s=> ?_
 refine zV (CU.agg (fQN (hlf x))) ((fQN (hlf x)).toSF) rfl s (by kernel_rfl) rfl rfl rfl iiz iiz yK fun a w s=> ?_
 refine zA rfl ?_
 refine wpIn_ret ?_
 exact StS.resC s (CU.agg (fQN (hlf x))) rfl (by kernel_rfl) rfl rfl (qX _) (fun cs W h=>h)
theorem zOY {W:World} {u v:Value} {x y:Int} (hu:u= .int .i64 x) (hv:v= .int .i64 y) (hx:x.natAbs<100) (hy:y.natAbs<100):Calls Tryz.prog 79 #[u,v] W (Ret W (fPN (hlf x,hlf y)).toSF):=by
 refine z7 [(UF.eq (.int .i64 x)).toSF,(UF.eq (.int .i64 y)).toSF] Tryz.func79 rfl (by kernel_rfl) ⟨hu,hv,trivial⟩ fun a s=> ?_
 refine wpIn_seq ?_
 refine zB 0 [] hmix s (by kernel_rfl)
  zE fun a w1 s=> ?_
 refine zY (CU.len 6) (cs:=zP6) (by kernel_rfl) rfl s (by kernel_rfl) (fun W=>rfl) rfl fun b4 a w s=> ?_
 refine zA rfl ?_
 refine wpIn_seq ?_
 refine zB 5 ((5, .s ((UF.eq (.int .i64 x)).toSF))::(6, .s ((fQN (hlf x)).toSF))::(7, .s ((UF.eq (.int .i64 y)).toSF))::(8, .s ((fQN (hlf y)).toSF))::(9, .u (fPN (hlf x,hlf y))):: []) hmix s (by kernel_rfl)
  (oc zC<|oc (zI zD zPa (fun u0 W hb (h0:u0= .int .i64 x)=>zJi h0 hx))<|oc zC<|oc (zI zD zPa (fun u0 W hb (h0:u0= .int .i64 y)=>zJi h0 hy))<|oc (qM (fun u v W (hu:QNp (hlf x) u W) (hv:QNp (hlf y) v W)=>zQS (zAJ _) (zAJ _) hu hv))<|zE) fun a w2 s=> ?_
 refine zV (CU.agg (fPN (hlf x,hlf y))) ((fPN (hlf x,hlf y)).toSF) rfl s (by kernel_rfl) rfl rfl rfl iiz iiz yR fun a w s=> ?_
 refine zA rfl ?_
 refine wpIn_ret ?_
 exact StS.resC s (CU.agg (fPN (hlf x,hlf y))) rfl (by kernel_rfl) rfl rfl (zP _ _) (fun cs W h=>h)
theorem zHw {W:World} (hT:Tab W):Calls Tryz.prog 31 #[] W (Ret W (fB true).toSF):=by
 refine z7 [] Tryz.func31 rfl (by kernel_rfl) trivial fun a s=> ?_
 refine wpIn_seq ?_
 refine zB 1 ((0, .u (UF.eq (.bool false))):: []) hmix s (by kernel_rfl)
  (oc zG<|zE) fun a w1 s=> ?_
 refine zA rfl ?_
 refine wpIn_seq ?_
 refine jW 1 ((2, .s (SF.row 6 (pns T3L))):: []) hmix s (by kernel_rfl)
  (oc (zEt zD zTy (fun W hb=>zPx))<|zE) fun a w2 s hr=> ?_
 obtain ⟨v5,e5⟩: ∃v,a.tmps.getD 2 undef=v:=⟨_,rfl⟩
 have hv5:(SF.row 6 (pvs 1 T3L)).p v5 w2:=e5▸zLw zS8 _ _ (hr (_,_) (.head _))
 replace s:=s.learn 2 v5 e5
 have hb0:=s.below
 replace hT:=hT.below hb0
 replace s:=s.reb rfl [(2, .u (UF.eq v5)),(0, .u (UF.eq (.bool false)))] (fmz ⟨.inl (.head _),fmz ⟨.inl mz1,fnz⟩⟩)
 refine yU (UF.eq v5) rfl s (by kernel_rfl) iiz fun a w s=> ?_
 refine zA rfl ?_
 refine wpIn_seq ?_
 replace s:=s.drop [0]
 refine zB 43 ((3, .s ((fPN (((1:Int):Rat),((0:Int):Rat))).toSF))::(4, .s ((UF.eq v5).toSF))::(5, .s ((UF.eq (.int .i64 0)).toSF))::(6, .s ((UF.eq (.bool true)).toSF))::(7, .s ((UF.eq (.bool true)).toSF))::(8, .s ((fPN (((1:Int):Rat),((0:Int):Rat))).toSF))::(9, .s ((UF.eq v5).toSF))::(10, .s ((UF.eq (.int .i64 0)).toSF))::(11, .s ((UF.eq (.bool true)).toSF))::(12, .s ((UF.eq (.bool true)).toSF))::(13, .s ((UF.eq (.bool true)).toSF))::(14, .s ((fPN (hlf 1,hlf 1)).toSF))::(15, .s ((UF.eq v5).toSF))::(16, .s ((UF.eq (.int .i64 1)).toSF))::(17, .s ((UF.eq (.bool true)).toSF))::(18, .s ((UF.eq (.bool true)).toSF))::(19, .s ((UF.eq (.bool true)).toSF))::(20, .s ((fPN (((2:Int):Rat),((2:Int):Rat))).toSF))::(21, .s ((UF.eq v5).toSF))::(22, .s ((UF.eq (.int .i64 (-1))).toSF))::(23, .s ((UF.eq (.bool true)).toSF))::(24, .s ((UF.eq (.bool true)).toSF))::(25, .s ((UF.eq (.bool true)).toSF))::(26, .s ((UF.eq v5).toSF))::(27, .s ((UF.eq v5).toSF))::(28, .s ((UF.eq (.bool true)).toSF))::(29, .s ((UF.eq (.bool true)).toSF))::(30, .s ((UF.eq (.bool true)).toSF))::(31, .s ((UF.eq v5).toSF))::(32, .s ((UF.eq v5).toSF))::(33, .s (SF.ptr (CU.agg (fPV 1 (at_ T3L 0))).cf))::(34, .s ((fPV 1 (at_ T3L 0)).toSF))::(35, .s (SF.row 6 [CU.agg (fPV 1 (at_ T3L 0))]))::(36, .s ((UF.eq (.bool false)).toSF))::(37, .s ((UF.eq (.bool true)).toSF))::(38, .s ((UF.eq (.bool true)).toSF))::(39, .s ((UF.eq (.bool true)).toSF))::(40, .s ((fPN (hlf 1,hlf 1)).toSF))::(41, .s ((UF.eq v5).toSF))::(42, .s ((UF.eq (.int .i64 1)).toSF))::(43, .s ((UF.eq (.bool true)).toSF))::(44, .s ((UF.eq (.bool true)).toSF))::(0, .u (UF.eq (.bool true))):: []) hmix s (by kernel_rfl)
  (oc (zH zD zGn (fun u0 u1 W hb (h0:u0= .int .i64 1) (h1:u1= .int .i64 0)=>zDa h0 h1 (by decide) (by decide)))<|oc zC<|oc (zH zD zFm (fun u0 u1 W hb (h0:(fPN (((1:Int):Rat),((0:Int):Rat))).p u0 W) (h1:u1=v5)=>(zAZ (m:=1) (p:=(((1:Int):Rat),((0:Int):Rat))) (ps:=T3L) (zBe (p:=(((1:Int):Rat),((0:Int):Rat))) (m:=1) (qbz (by decide)) (qbz (by decide)) h0) (yW hv5 h1 (s.up hb)) (by decide) (by decide) (by decide) (hT.below (s.up hb))).mono (Ret.to (fun v W h=>by rw [tw1] at h;exact h))))<|oc (zQ .i64 0 0 true iiz iiz (by rfl) rfl)<|oc zC<|oc (zF 7 true (by kernel_rfl) iiz (fun _=>zH zD zGn (fun u0 u1 W hb (h0:u0= .int .i64 1) (h1:u1= .int .i64 0)=>zDa h0 h1 (by decide) (by decide))) arf)<|oc (zF 7 true (by kernel_rfl) iiz (fun _=>zC) arf)<|oc (zF 7 true (by kernel_rfl) iiz (fun _=>zH zD zR1 (fun u0 u1 W hb (h0:(fPN (((1:Int):Rat),((0:Int):Rat))).p u0 W) (h1:u1=v5)=>(zRT (m:=1) (p:=(((1:Int):Rat),((0:Int):Rat))) (ps:=T3L) (zBe (p:=(((1:Int):Rat),((0:Int):Rat))) (m:=1) (qbz (by decide)) (qbz (by decide)) h0) (yW hv5 h1 (s.up hb)) (by decide) (by decide) (by decide) (hT.below (s.up hb))).mono (Ret.to (fun v W h=>by rw [tw2] at h;exact h)))) arf)<|oc (zF 7 true (by kernel_rfl) iiz (fun _=>zQ .i64 0 0 true iiz iiz (by rfl) rfl) arf)<|oc (yF true iiz (fun _ _ _ h=>h) (fun e=>by cases e))<|oc zC<|oc (zF 13 true (by kernel_rfl) iiz (fun _=>zH zD zR0 (fun u0 u1 W hb (h0:u0= .int .i64 1) (h1:u1= .int .i64 1)=>zOY (x:=1) (y:=1) h0 h1 (by decide) (by decide))) arf)<|oc (zF 13 true (by kernel_rfl) iiz (fun _=>zC) arf)<|oc (zF 13 true (by kernel_rfl) iiz (fun _=>zH zD zFm (fun u0 u1 W hb (h0:(fPN (hlf 1,hlf 1)).p u0 W) (h1:u1=v5)=>(zAZ (m:=1) (p:=(hlf 1,hlf 1)) (ps:=T3L) (zBe (p:=(hlf 1,hlf 1)) (m:=1) zIR zIR h0) (yW hv5 h1 (s.up hb)) (by decide) (by decide) (by decide) (hT.below (s.up hb))).mono (Ret.to (fun v W h=>by rw [tw3] at h;exact h)))) arf)<|oc (zF 13 true (by kernel_rfl) iiz (fun _=>zQ .i64 1 1 true iiz iiz (by rfl) rfl) arf)<|oc (yF true iiz (fun _ _ _ h=>h) (fun e=>by cases e))<|oc zC<|oc (zF 19 true (by kernel_rfl) iiz (fun _=>zH zD zGn (fun u0 u1 W hb (h0:u0= .int .i64 2) (h1:u1= .int .i64 2)=>zDa h0 h1 (by decide) (by decide))) arf)<|oc (zF 19 true (by kernel_rfl) iiz (fun _=>zC) arf)<|oc (zF 19 true (by kernel_rfl) iiz (fun _=>zH zD zFm (fun u0 u1 W hb (h0:(fPN (((2:Int):Rat),((2:Int):Rat))).p u0 W) (h1:u1=v5)=>(zAZ (m:=1) (p:=(((2:Int):Rat),((2:Int):Rat))) (ps:=T3L) (zBe (p:=(((2:Int):Rat),((2:Int):Rat))) (m:=1) (qbz (by decide)) (qbz (by decide)) h0) (yW hv5 h1 (s.up hb)) (by decide) (by decide) (by decide) (hT.below (s.up hb))).mono (Ret.to (fun v W h=>by rw [tw4] at h;exact h)))) arf)<|oc (zF 19 true (by kernel_rfl) iiz (fun _=>zQ .i64 (-1) (-1) true iiz iiz (by rfl) rfl) arf)<|oc (yF true iiz (fun _ _ _ h=>h) (fun e=>by cases e))<|oc zC<|oc (zF 25 true (by kernel_rfl) iiz (fun _=>zC) arf)<|oc (zF 25 true (by kernel_rfl) iiz (fun _=>zC) arf)<|oc (zF 25 true (by kernel_rfl) iiz (fun _=>zH zD zR6 (fun u0 u1 W hb (h0:u0=v5) (h1:u1=v5)=>(zJg (m:=1) (ps:=T3L) (qs:=T3L) (yW hv5 h0 (s.up hb)) (yW hv5 h1 (s.up hb)) (by decide) (by decide) (by decide) (by decide) (hT.below (s.up hb))).mono (Ret.to (fun v W h=>by rw [tw5] at h;exact h)))) arf)<|oc (yF true iiz (fun _ _ _ h=>h) (fun e=>by cases e))<|oc zC<|oc (zF 30 true (by kernel_rfl) iiz (fun _=>zC) arf)<|oc (zF 30 true (by kernel_rfl) iiz (fun _=>zC) arf)<|oc (zF 30 true (by kernel_rfl) iiz (fun _=>jB (z:=6) (Cs:=pvs 1 T3L) (i:=0) (C:=CU.agg (fPV 1 (at_ T3L 0))) (by kernel_rfl) (jD (by decide)) (fun v W hb h=>(yW hv5 h (s.up hb))) iiz) arf)<|oc (zF 30 true (by kernel_rfl) iiz (fun _=>zK (f:=fPV 1 (at_ T3L 0)) 6 (by kernel_rfl) (hz:=zP _ _)) arf)<|oc (zF 30 true (by kernel_rfl) iiz (fun _=>zA2 (fun u W (hu:(fPV 1 (at_ T3L 0)).p u W)=>zGI hu)) arf)<|oc (zF 30 true (by kernel_rfl) iiz (fun _=>zH zD zR7 (fun u0 u1 W hb (h0:u0=v5) h1=>(zE8 (m:=1) (ps:=T3L) (qs:= [at_ T3L 0]) (yW hv5 h0 (s.up hb)) h1 (by decide) (by decide) (by decide) (by decide) (hT.below (s.up hb))).mono (Ret.to (fun v W h=>by rw [tw6] at h;exact h)))) arf)<|oc (zF 30 true (by kernel_rfl) iiz (fun _=>zD6 false iiz (fun _=>rfl)) arf)<|oc (yF true iiz (fun _ _ _ h=>h) (fun e=>by cases e))<|oc zC<|oc (zF 39 true (by kernel_rfl) iiz (fun _=>zH zD zR0 (fun u0 u1 W hb (h0:u0= .int .i64 1) (h1:u1= .int .i64 1)=>zOY (x:=1) (y:=1) h0 h1 (by decide) (by decide))) arf)<|oc (zF 39 true (by kernel_rfl) iiz (fun _=>zC) arf)<|oc (zF 39 true (by kernel_rfl) iiz (fun _=>zH zD zRZ (fun u0 u1 W hb (h0:(fPN (hlf 1,hlf 1)).p u0 W) (h1:u1=v5)=>(zFx (m:=1) (p:=(hlf 1,hlf 1)) (ps:=T3L) (zBe (p:=(hlf 1,hlf 1)) (m:=1) zIR zIR h0) (yW hv5 h1 (s.up hb)) (by decide) (by decide) (by decide) (hT.below (s.up hb))).mono (Ret.to (fun v W h=>by rw [tw7] at h;exact h)))) arf)<|oc (zF 39 true (by kernel_rfl) iiz (fun _=>zQ .i64 1 1 true iiz iiz (by rfl) rfl) arf)<|oc (yF true iiz (fun _ _ _ h=>h) (fun e=>by cases e))<|oc zG<|zE) fun a w3 s=> ?_
 refine zA rfl ?_
 refine wpIn_ret ?_
 exact StS.resB s hb0 (t:=0) rfl iiz
theorem zBj {x:PX} (h:PX.b x≤80) (cs:List Value) (W:World) (hc:(PX.cu x).p cs W):0+6≤cs.length∧(fPV 80 x.p).p (.agg ((cs.drop 0).take 6).toArray) W:=zBT cs W (zLq h hc)
theorem zOP (ps:List PX): ∀C,C∈pxs ps→CU.ok 6 C:=fun C hC=>by
 obtain ⟨t,_,rfl⟩:=List.mem_map.1 hC
 exact zDf _ _
end Go.Proofs.Wd
