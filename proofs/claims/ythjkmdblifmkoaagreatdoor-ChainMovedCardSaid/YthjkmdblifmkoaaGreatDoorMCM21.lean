/- Triangles as they are handed in; walks of straitref18: Corners, GreatT and what it needs. -/
import Derived.Test.YthjkmdblifmkoaaGreatDoorMCM20
import Derived.Test.YthjkmdblifmkoaaGreatDoorMCM19
import Derived.Test.YthjkmdblifmkoaaGreatDoorMCM13
theorem kI {P:Prop} (h:P:=by kernel_rfl):P:=h
theorem oP {P:Prop} (h:P:=by omega):P:=h
theorem dB {P:Prop} (h:P:=by decide):P:=h
theorem fM {c:Prop} {α:Sort _} {R:α->Prop} (e:¬c) (w:α) (h:c):R w:=absurd h e
theorem fN {α β:Sort _} {γ:α->β->Sort _} {p:(a:α)->(b:β)->γ a b->Prop} (a:α) (b:β) (c:γ a b) (h:p a b c):p a b c:=h
theorem fO {β γ:Sort _} {p q:β->γ->Prop} (b:β) (c:γ) (h:p b c) (_:q b c):p b c:=h
theorem fP {P:Prop} (h:P:=by simp):P:=h
abbrev zVC:=@Go.wpIn_seq
abbrev zVD:=@Go.wpIn_ret
abbrev zVE:=@List.mem_cons
abbrev zVF:=@Go.wpIn_skip
abbrev zVG:=@Go.wpIn_block
abbrev zVH:=@Nat.le_trans
abbrev zVI:=@of_decide_eq_true
abbrev zVJ:=@of_decide_eq_false
abbrev zVK:=@List.mem_singleton
abbrev zVL:=@Go.wpIn_exit
abbrev zVM:=@Nat.zero_le
abbrev zVN:=@List.mem_map
abbrev zVO:=@List.mem_range
abbrev zVP:=@Go.RowKit.Below.refl
abbrev zVQ:=@List.length_map
abbrev zVR:=@Nat.lt_or_eq_of_le
abbrev zVS:=@List.getElem?_eq_some_iff
abbrev zVT:=@List.any_eq_false
abbrev zVU:=@Nat.le_of_lt_succ
abbrev zVV:=@List.mem_append
abbrev zVW:=@Nat.not_lt_zero
abbrev zVX:=@Go.run_underlying
abbrev zVY:=@beq_iff_eq
abbrev zVZ:=@beq_eq_false_iff_ne
abbrev zV0:=@Array.getElem?_eq_some_iff
abbrev zV1:=@List.take_of_length_le
abbrev zV2:=@Bool.or_eq_false_iff
abbrev zV3:=@List.getElem?_map
abbrev zV4:=@List.getElem?_eq_getElem
abbrev zV5:=@Bool.and_eq_true
abbrev zV6:=@List.length_drop
abbrev zV7:=@Go.Addr.add_lit
abbrev zV8:=@Rat.not_lt
abbrev zV9:=@Rat.le_refl
abbrev zWa:=@Classical.byContradiction
abbrev zWb:=@decide_eq_true
abbrev zWc:=@List.not_mem_nil
abbrev zWd:=@List.all_eq_true
abbrev zWe:=@List.getElem?_take
abbrev zWf:=@List.getD_eq_getElem?_getD
abbrev zWg:=@List.map_append
abbrev zWh:=@Int.lt_trichotomy
abbrev zWi:=@Nat.lt_of_lt_of_le
abbrev zWj:=@Option.some.inj
abbrev zWk:=@Bool.not_eq_true'
abbrev zWl:=@List.take_append_of_le_length
abbrev zWm:=@List.drop_append_of_le_length
abbrev zWn:=@Int.sign_eq_neg_one_of_neg
abbrev zWo:=@Array.getD_eq_getD_getElem?
abbrev Wp:=Go.World
abbrev Wq:=Go.Value
abbrev Wr:=Go.TypeId
abbrev Ws:=Option
abbrev Wt:=Go.Operand
abbrev Wu:=Go.Program
namespace Go.Proofs.Wd
open Tryz
set_option maxRecDepth 100000
set_option maxHeartbeats 1000000
open Go.RowKit Lb
def TGp (u v q:UF) (x:Wq) (w:Wp):Prop:= ∃a b c:List Wq,x= .agg (a++b++c).toArray/\(CU.agg u).p a w/\(CU.agg v).p b w/\(CU.agg q).p c w
def fTG (u v q:UF):UF:= .mk' (TGp u v q) fun _ _ _ ⟨a,b,c,e,h1,h2,h3⟩ k=>⟨a,b,c,e,(CU.agg u).us _ _ _ h1 k,(CU.agg v).us _ _ _ h2 k,(CU.agg q).us _ _ _ h3 k⟩
section
variable {f g f' g' f'' g'':UF}
theorem zD1 {cs:List Wq} {W:Wp} (h:(CU.agg (fTG (fPT f g) (fPT f' g') (fPT f'' g''))).p cs W): ∃a b c:List Wq,cs=a++b++c/\a.length=6/\b.length=6/\c.length=6/\(CU.agg (fPT f g)).p a W/\(CU.agg (fPT f' g')).p b W/\(CU.agg (fPT f'' g'')).p c W:=by
 obtain ⟨a,b,c,e,h1,h2,h3⟩:=h
 have:=congrArg Array.toList (jG e)
 have this:cs=a++b++c:=this
 exact ⟨a,b,c,this,(zB7 _ _ a W h1).1,(zB7 _ _ b W h2).1,(zB7 _ _ c W h3).1,h1,h2,h3⟩
theorem zRa:CU.ok 18 (CU.agg (fTG (fPT f g) (fPT f' g') (fPT f'' g''))):=fun cs W h=>by
 obtain ⟨a,b,c,rfl,l1,l2,l3,h1,h2,h3⟩:=zD1 h
 have o1:=zB7 _ _ a W h1;have o2:=zB7 _ _ b W h2;have o3:=zB7 _ _ c W h3
 refine ⟨by simp [l1,l2,l3],zGj o1.2.1 o2.2.1 o3.2.1,fun u hu=> ?_⟩
 rcases zVV.1 hu with hu|hu
 ·rcases zVV.1 hu with hu|hu
  ·exact o1.2.2 u hu
  ·exact o2.2.2 u hu
 ·exact o3.2.2 u hu
theorem zRb: ∀cs:List Wq, ∀W,(fTG (fPT f g) (fPT f' g') (fPT f'' g'')).p (.agg cs.toArray) W->cs.length=18:=fun cs W h=>(zRa cs W h).1
theorem zRc {v:Wq} {W:Wp} (h:(fTG (fPT f g) (fPT f' g') (fPT f'' g'')).p v W):(CU.agg (fTG (fPT f g) (fPT f' g') (fPT f'' g''))).p v.cells.toList W/\v.cells.toList.all zU=true:=by
 obtain ⟨a,b,c,rfl,h1⟩:=id h
 exact ⟨h,(zRa _ W h).2.1⟩
theorem zQ9 (cs:List Wq) (W:Wp) (h:(CU.agg (fTG (fPT f g) (fPT f' g') (fPT f'' g''))).p cs W):0+6<=cs.length/\(fPT f g).p (.agg ((cs.drop 0).take 6).toArray) W:=by
 obtain ⟨a,b,c,rfl,l1,l2,l3,h1,_⟩:=zD1 h
 refine ⟨by simp [l1,l2,l3], ?_⟩
 rw [List.drop_zero,List.append_assoc,zWl oP,zV1 oP]
 exact h1
theorem zQ8 (cs:List Wq) (W:Wp) (h:(CU.agg (fTG (fPT f g) (fPT f' g') (fPT f'' g''))).p cs W):6+6<=cs.length/\(fPT f' g').p (.agg ((cs.drop 6).take 6).toArray) W:=by
 obtain ⟨a,b,c,rfl,l1,l2,l3,_,h2,_⟩:=zD1 h
 refine ⟨by simp [l1,l2,l3], ?_⟩
 rw [List.append_assoc,zWm oP,List.drop_of_length_le oP,List.nil_append,zWl oP,zV1 oP]
 exact h2
theorem zPv (cs:List Wq) (W:Wp) (h:(CU.agg (fTG (fPT f g) (fPT f' g') (fPT f'' g''))).p cs W):12+6<=cs.length/\(fPT f'' g'').p (.agg ((cs.drop 12).take 6).toArray) W:=by
 obtain ⟨a,b,c,rfl,l1,l2,l3,_,_,h3⟩:=zD1 h
 refine ⟨by simp [l1,l2,l3], ?_⟩
 rw [zWm (by simp;omega),List.drop_of_length_le (by simp;omega),List.nil_append,zV1 oP]
 exact h3
theorem zPF {W:Wp} {e:Wr} {z:Nat} {Cs:List CU} {cs:List Wq} (hlen:Cs.length<=9223372036854775807) (h: ∀(i:Nat) (C:CU),Cs[i]?=some C-> ∃p:List Wq,(∀j u,p[j]?=some u->cs[i*z+j]?=some u)/\C.p p W):(SF.row z Cs).p (.slice (some ⟨W.heap.size,0,none⟩) Cs.length Cs.length) (W.alloc (.cells cs.toArray e)):=by
 refine ⟨some ⟨W.heap.size,0,none⟩,Cs.length,rfl,Nat.le_refl _,hlen,fun e=>(by cases e),fun i C hi=> ?_⟩
 obtain ⟨p,h1,h2⟩:=h i C hi
 refine ⟨W.heap.size,0,p,rfl,fun j u hj=> ?_,C.us _ _ _ h2 (zP (zCo W _))⟩
 have:=zBt W cs.toArray e (i*z+j) u (by simpa using h1 j u hj)
 rwa [<-Nat.add_assoc] at this
theorem zUA (s:Bool) (A A':Ws Addr) (n n' c c':Nat) (s2:Bool) (B B':Ws Addr) (k k' d d':Nat) (t:Bool) (C C':Ws Addr) (i i' j j':Nat) (t2:Bool) (D D':Ws Addr) (x x' y y':Nat) (r:Bool) (E E':Ws Addr) (p p' q q':Nat) (r2:Bool) (F F':Ws Addr) (g g' h h':Nat):yI prog 22 3 [(0, .agg #[.bool s, .slice A n c, .slice A' n' c', .bool s2, .slice B k d, .slice B' k' d']),(1, .agg #[.bool t, .slice C i j, .slice C' i' j', .bool t2, .slice D x y, .slice D' x' y']),(2, .agg #[.bool r, .slice E p q, .slice E' p' q', .bool r2, .slice F g h, .slice F' g' h'])]=some (31,#[.bool s, .slice A n c, .slice A' n' c', .bool s2, .slice B k d, .slice B' k' d', .bool t, .slice C i j, .slice C' i' j', .bool t2, .slice D x y, .slice D' x' y', .bool r, .slice E p q, .slice E' p' q', .bool r2, .slice F g h, .slice F' g' h']):=by kernel_rfl
theorem zKn {u v q:Wq} {W:Wp} (hu:(fPT f g).p u W) (hv:(fPT f' g').p v W) (hq:(fPT f'' g'').p q W): ∃e cs,yI prog 22 3 [(0,u),(1,v),(2,q)]=some (e,cs)/\(SF.row 6 [CU.agg (fPT f g),CU.agg (fPT f' g'),CU.agg (fPT f'' g'')]).p (.slice (some ⟨W.heap.size,0,none⟩) 3 3) (W.alloc (.cells cs e)):=by
 obtain ⟨s,A,n,c,A',n',c',s2,B,k,d,B',k',d',rfl,h1,h2⟩:=hu
 obtain ⟨s3,A3,n3,c3,A4,n4,c4,s4,B3,k3,d3,B4,k4,d4,rfl,h3,h4⟩:=hv
 obtain ⟨s5,A5,n5,c5,A6,n6,c6,s6,B5,k5,d5,B6,k6,d6,rfl,h5,h6⟩:=hq
 refine ⟨_,_,zUA ..,zPF (Cs:= [CU.agg (fPT f g),CU.agg (fPT f' g'),CU.agg (fPT f'' g'')]) (cs:=_) fP fun i C hi=> ?_⟩
 have hlt:=(zVS.1 hi).1
 simp at hlt
 rcases (by omega:i=0∨i=1∨i=2) with rfl|rfl|rfl
 ·obtain rfl:CU.agg (fPT f g)=C:=by simpa using hi
  exact ⟨[.bool s, .slice A n c, .slice A' n' c', .bool s2, .slice B k d, .slice B' k' d'],fun j u hj=>by
   have h9:=(zVS.1 hj).1
   simp at h9
   rcases (by omega:j=0∨j=1∨j=2∨j=3∨j=4∨j=5) with rfl|rfl|rfl|rfl|rfl|rfl<;>exact hj,s,A,n,c,A',n',c',s2,B,k,d,B',k',d',rfl,h1,h2⟩
 ·obtain rfl:CU.agg (fPT f' g')=C:=by simpa using hi
  exact ⟨[.bool s3, .slice A3 n3 c3, .slice A4 n4 c4, .bool s4, .slice B3 k3 d3, .slice B4 k4 d4],fun j u hj=>by
   have h9:=(zVS.1 hj).1
   simp at h9
   rcases (by omega:j=0∨j=1∨j=2∨j=3∨j=4∨j=5) with rfl|rfl|rfl|rfl|rfl|rfl<;>exact hj,s3,A3,n3,c3,A4,n4,c4,s4,B3,k3,d3,B4,k4,d4,rfl,h3,h4⟩
 ·obtain rfl:CU.agg (fPT f'' g'')=C:=by simpa using hi
  exact ⟨[.bool s5, .slice A5 n5 c5, .slice A6 n6 c6, .bool s6, .slice B5 k5 d5, .slice B6 k6 d6],fun j u hj=>by
   have h9:=(zVS.1 hj).1
   simp at h9
   rcases (by omega:j=0∨j=1∨j=2∨j=3∨j=4∨j=5) with rfl|rfl|rfl|rfl|rfl|rfl<;>exact hj,s5,A5,n5,c5,A6,n6,c6,s6,B5,k5,d5,B6,k6,d6,rfl,h5,h6⟩
end
abbrev TX:=PX×PX×PX
abbrev TX.t (x:TX):V6:=(x.1.p,x.2.1.p,x.2.2.p)
abbrev TX.u (x:TX):UF:=fTG x.1.u x.2.1.u x.2.2.u
abbrev TX.cu (x:TX):CU:=CU.agg x.u
abbrev TX.l (x:TX):List PX:= [x.1,x.2.1,x.2.2]
abbrev txs (L:List TX):List CU:=L.map TX.cu
abbrev tts (L:List TX):List V6:=L.map TX.t
def PX.b (x:PX):Nat:=x.1.n+x.1.n'+(x.2.n+x.2.n')
def TX.b (x:TX):Nat:=PX.b x.1+PX.b x.2.1+PX.b x.2.2
def gTr (L:List TX):Bool:=(L.take 9).any (fun x=>gPt x.l)||decide (8<L.length)
theorem zS7 {L:List TX} (h:gTr L=false):L.length<=8/\ ∀x,x∈L->gPt x.l=false:=by
 unfold gTr at h
 rw [zV2] at h
 have h2:=zVJ h.2
 refine ⟨by omega,fun x hx=> ?_⟩
 have h1:=zVT.1 h.1 x (by rw [zV1 oP];exact hx)
 simpa using h1
theorem zQt {L:List TX} {k:Nat} {x:TX} (hk:k<=8) (hx:L[k]?=some x) (h:gPt x.l=true):gTr L=true:=by
 unfold gTr
 rw [Bool.or_eq_true]
 left
 exact List.any_eq_true.2 ⟨x,List.mem_of_getElem? (i:=k) (by rw [zWe,if_pos oP];exact hx),h⟩
theorem zQs {L:List TX} (h: ∀(j:Nat) (y:TX),j<9->L[j]?=some y->gPt y.l=false):gTr L=decide (((txs L).length:Int)>8):=by
 unfold gTr
 have:(L.take 9).any (fun x=>gPt x.l)=false:=by
  refine zVT.2 fun x hx=> ?_
  obtain ⟨j,hj⟩:=List.getElem?_of_mem hx
  rw [zWe] at hj
  split at hj
  ·rename_i hlt
   rw [h j x hlt hj];simp
  ·cases hj
 rw [this,Bool.false_or,decide_eq_decide,zVQ]
 omega
theorem zSJ {x:TX} (h:gPt x.l=false) {v:Wq} {W:Wp} (hv:x.u.p v W):(fTR 2 x.t).p v W:=by
 obtain ⟨a,b,c,e,h1,h2,h3⟩:=hv
 have hb:=(zIb h).2
 exact ⟨a,b,c,e,zGJ (hb _ fP) h1,zGJ (hb _ fP) h2,zGJ (hb _ fP) h3⟩
theorem zPq {L:List TX} (h: ∀x,x∈L->gPt x.l=false) (v:Wq) (W:Wp) (hv:(SF.row 18 (txs L)).p v W):(SF.row 18 (trs 2 (tts L))).p v W:=
 zEy fP (fun i C D hC hD cs W hh=>by
  have hi:i<L.length:=by have:=(zVS.1 hC).1;simpa using this
  rw [zV3,zV4 hi] at hC
  rw [zV3,zV3,zV4 hi] at hD
  cases hC;cases hD
  exact zSJ (h _ (List.getElem_mem hi)) hh) v W hv
theorem zMi {f g f' g' f'' g'':UF} {W:Wp} {x:Wq} (hx:(fTG (fPT f g) (fPT f' g') (fPT f'' g'')).p x W):Calls prog 48 #[x] W (Ret W (SF.row 6 [CU.agg (fPT f g),CU.agg (fPT f' g'),CU.agg (fPT f'' g'')])):=by
 refine yE [(fTG (fPT f g) (fPT f' g') (fPT f'' g'')).tS] func48 rfl kI ⟨hx,trivial⟩ fun a s=> ?_
 replace s:=s.renew [(0, .u (fTG (fPT f g) (fPT f' g') (fPT f'' g'')))] (fmz ⟨.inr ⟨_,rfl, .head _⟩,fnz⟩)
 refine zVC ?_
 refine zB 0 [] hmix s kI
  zD fun a w1 s=> ?_
 refine yV (CU.agg (fTG (fPT f g) (fPT f' g') (fPT f'' g''))) rfl s kI (fun v W h=>zRc h) fun b1 a w s=> ?_
 refine y8 (UF.eq (.slice none 0 0)) rfl s kI iiz fun a w s=> ?_
 refine zA rfl ?_
 refine zVC ?_
 replace s:=s.drop [2]
 refine jT 8 ((3, .X (fTG (fPT f g) (fPT f' g') (fPT f'' g'')) 0)::(4, .Z (fPT f g))::(5, .X (fTG (fPT f g) (fPT f' g') (fPT f'' g'')) 6)::(6, .Z (fPT f' g'))::(7, .X (fTG (fPT f g) (fPT f' g') (fPT f'' g'')) 12)::(8, .Z (fPT f'' g''))::(9, .s (SF.row 6 [CU.agg (fPT f g),CU.agg (fPT f' g'),CU.agg (fPT f'' g'')]))::(2, .s (SF.row 6 [CU.agg (fPT f g),CU.agg (fPT f' g'),CU.agg (fPT f'' g'')])):: []) hmix s kI
  (oc (zCc (C:=cg (fTG (fPT f g) (fPT f' g') (fPT f'' g''))) 0 0 kI (fun _ _ h=>h.2) iiz)<|oc (yG (C:=cg (fTG (fPT f g) (fPT f' g') (fPT f'' g''))) (k:=0) 6 kI (h:=zQ9))<|oc (zCc (C:=cg (fTG (fPT f g) (fPT f' g') (fPT f'' g''))) 1 6 kI (fun _ _ h=>h.2) iiz)<|oc (yG (C:=cg (fTG (fPT f g) (fPT f' g') (fPT f'' g''))) (k:=6) 6 kI (h:=zQ8))<|oc (zCc (C:=cg (fTG (fPT f g) (fPT f' g') (fPT f'' g''))) 2 12 kI (fun _ _ h=>h.2) iiz)<|oc (yG (C:=cg (fTG (fPT f g) (fPT f' g') (fPT f'' g''))) (k:=12) 6 kI (h:=zPv))<|oc (zDd (fun u v q W (hu:(fPT f g).p u W) (hv:(fPT f' g').p v W) (hq:(fPT f'' g'').p q W)=>zKn hu hv hq))<|oc zG<|zD) fun a w2 s hr=> ?_
 refine zA rfl ?_
 refine zVD ?_
 exact StS.resN s (zVP _ _) (t:=2) rfl (hr (_,_) mz7)
theorem zJx {L:List TX} {W:Wp} {l:Wq} (hl:(SF.row 18 (txs L)).p l W):Calls prog 23 #[l] W (Ret W (fB (gTr L)).tS):=by
 refine yE [SF.row 18 (txs L)] func23 rfl kI ⟨hl,trivial⟩ fun a s=> ?_
 refine zVC ?_
 refine zB 1 ((2, .u (uB false)):: []) hmix s kI
  (oc zG<|zD) fun a w1 s=> ?_
 refine zA rfl ?_
 refine zVC ?_
 refine zVC ?_
 refine zB 1 ((3, .u (uI 0)):: []) hmix s kI
  (oc zG<|zD) fun a w2 s=> ?_
 refine zA rfl ?_
 refine zVG ?_
 refine zBp (fun k=>k<=L.length/\k<=9/\ ∀(j:Nat) (y:TX),j<k->L[j]?=some y->gPt y.l=false) (fun k=> [(0, .o (SF.row 18 (txs L))),(3, .u (uI ((k:Nat):Int)))]) (fun k=>9 - k) (0:Nat) (⟨zVM _,by omega,fun j y hj=>absurd hj (zVW _)⟩) (s.keepK _ (fmz ⟨mz2,fmz ⟨.head _,fnz⟩⟩)) fun k a w hx s=> ?_
 refine zVC ?_
 refine zVC ?_
 refine zB 8 ((4, .Z (uI (k:Int)))::(5, .s (SF.row 18 (txs L)))::(6, .Z (uI ((txs L).length:Int)))::(7, .Z (uB (decide ((k:Int)<((txs L).length:Int)))))::(8, .Z (uB (decide ((k:Int)<((txs L).length:Int)))))::(9, .s (SF.imp ((decide ((k:Int)<((txs L).length:Int)))=true) ((uI (k:Int)).tS)))::(10, .s (SF.imp ((decide ((k:Int)<((txs L).length:Int)))=true) ((uB (decide ((k:Int)<=8))).tS)))::(11, .u (uB ((decide ((k:Int)<((txs L).length:Int)))&&(decide ((k:Int)<=8))))):: []) hmix s kI
  (oc zC<|oc zC<|oc (zCb (z:=18) (Cs:=txs L) kI iiz (fun _=>rfl))<|oc (zT .i64 (k:Int) ((txs L).length:Int) (decide ((k:Int)<((txs L).length:Int))) iiz iiz rfl rfl)<|oc zC<|oc (zF 8 (decide ((k:Int)<((txs L).length:Int))) kI iiz (fun e=>qO [] ((uI (k:Int)).tS) fnz fO kI zC) fM)<|oc (zF 8 (decide ((k:Int)<((txs L).length:Int))) kI iiz (fun e=>qO [(9,(uI (k:Int)).tS)] ((uB (decide ((k:Int)<=8))).tS) (fmz ⟨fun v W h=>yS (c:=(decide ((k:Int)<((txs L).length:Int)))=true) (f:=(uI (k:Int)).tS) e h,fnz⟩) fO kI (zT .i64 (k:Int) 8 (decide ((k:Int)<=8)) iiz iiz rfl rfl)) fM)<|oc (yC (decide ((k:Int)<((txs L).length:Int))) iiz (fun e v W h=>zDb (yS e h) e) (fun e v W h=>zCa h e))<|zD) fun a w3 s=> ?_
 refine zA rfl ?_
 refine StS.cond s ((decide ((k:Int)<((txs L).length:Int)))&&(decide ((k:Int)<=8))) iiz (fun e=> ?_) (fun e=> ?_)
 ·rw [zV5] at e
  have hk1:k<L.length:=by have:=zVI e.1;simp at this;omega
  have hk2:k<=8:=by have:=zVI e.2;omega
  obtain ⟨x,hxl⟩: ∃x,L[k]?=some x:=⟨_,zV4 hk1⟩
  have hx_:(txs L)[k]?=some (TX.cu x):=by rw [zV3,hxl];rfl
  refine zVF ?_
  refine zVC ?_
  refine zVG ?_
  refine zVC ?_
  refine zB 6 ((14, .s (SF.row 18 (txs L)))::(15, .Z (uI (k:Int)))::(16, .s (wB (TX.cu x).cf))::(17, .Z (TX.u x))::(18, .s (SF.row 6 (pxs (TX.l x))))::(19, .u (uB (gPt (TX.l x)))):: []) hmix s kI
   (oc zC<|oc zC<|oc (zBz (z:=18) (Cs:=txs L) (i:=k) (C:=TX.cu x) kI hx_ iiz iiz)<|oc (zJ (f:=TX.u x) 18 kI (hz:=zRb))<|oc (zH zE zTy (fun u0 W hb (h0:(TX.u x).p u0 W)=>zMi h0))<|oc (zH zE zQI (fun u0 W hb (h0:(SF.row 6 (pxs (TX.l x))).p u0 W)=>zDD (L:=TX.l x) h0))<|zD) fun a w4 s=> ?_
  refine zA rfl ?_
  refine StS.cond s (gPt (TX.l x)) iiz (fun e=> ?_) (fun e=> ?_)
  ·refine zVC ?_
   refine zB 1 ((2, .u (uB true)):: []) hmix s kI
    (oc zG<|zD) fun a w5 s=> ?_
   refine zA rfl ?_
   refine zVD ?_
   exact wH s (t:=2) rfl (fun v W h=>by rw [zQt hk2 hxl e];exact h)
  ·have hbig:=e
   refine zVF ?_
   refine yF 2 ((12, .Z (uI (k:Int)))::(13, .u (uI ((k+1:Nat):Int))):: []) s kI
    (oc zC<|oc (qA .i64 (k:Int) 1 ((k+1:Nat):Int) iiz iiz (wrap64 _ _ oP oP))<|zD) fun a w6 s=> ?_
   replace s:=s.drop [3]
   refine y8 (uI ((k+1:Nat):Int)) rfl s kI iiz fun a w s=> ?_
   refine zA rfl ?_
   exact ⟨k+1,⟨by omega,by omega,fun j y hj hy=>by rcases zVR (zVU hj) with h|h;exact hx.2.2 j y h hy;rw [h,hxl] at hy;cases hy;exact hbig⟩,(by show 9 - (k+1)<9 - k;omega),s.keepK _ (fmz ⟨mz4,fmz ⟨.head _,fnz⟩⟩)⟩
 ·have hend:L.length<=k∨k=9:=by
   rw [Bool.and_eq_false_iff] at e
   rcases e with e|e
   ·have h7:=zVJ e;simp at h7;omega
   ·have h7:=zVJ e;omega
  refine zVL ?_
  refine zVC ?_
  refine zB 4 ((20, .s (SF.row 18 (txs L)))::(21, .Z (uI ((txs L).length:Int)))::(22, .Z (uB (decide (((txs L).length:Int)>8))))::(2, .u (uB (decide (((txs L).length:Int)>8)))):: []) hmix s kI
   (oc zC<|oc (zCb (z:=18) (Cs:=txs L) kI iiz (fun _=>rfl))<|oc (zT .i64 ((txs L).length:Int) 8 (decide (((txs L).length:Int)>8)) iiz iiz rfl rfl)<|oc zG<|zD) fun a w7 s=> ?_
  refine zA rfl ?_
  refine zVD ?_
  exact wH s (t:=2) rfl (fun v W h=>by rw [zQs (fun j y hj hy=>hx.2.2 j y (by have:=(zVS.1 hy).1;omega) hy)];exact h)
section
variable {F:Fence} {m:Nat} {P:Wu} {w0:Wp} {ops:Array Oper} {G:Nat->SF} {d:Tmp} {ty:Wr} {pos:String} {aft:Array Edge}
end
section
variable {f g f' g':UF}
end
section
variable {F:Fence} {m:Nat} {P:Wu} {u w0:Wp} {ops:Array Oper} {G:Nat->SF} {d:Tmp} {ty:Wr} {pos:String} {aft:Array Edge}
variable {l:Wq} {x y:Wt} {t:Wr} {z:Nat} {Cs:List CU} {i:Nat} {C:CU}
end
section
variable {S:Nat->Prop} {w0:Wp} {K:List (Nat×KF)} {B:List Bx} {n:Nat} {ds:List Deferred} {a:Act} {w:Wp}
theorem StS.own (h:St w0 K B n ds a w) {c:Nat} {y:Bx} (hB:zCY B c=some y) (hro:y.r=false):w0.heap.size<=y.b:=by
 obtain ⟨hy,_⟩:=qT hB
 obtain ⟨_,_,h2,_⟩:=h.bx.mem y hy
 rcases h2 with e|e|e
 ·rw [hro] at e;cases e
 ·exact e
 ·exact e.elim
end
theorem zPD (m:Nat) (W:Wp):RVp m 0 (.agg #[.bool false, .slice none 0 0, .slice none 0 0]) W:=⟨iv false [],0,⟨_,_,_,rfl,⟨false,none,0,0, [],rfl,wK W,zBw,zVM _,rfl⟩,⟨none,0,0, [],rfl,wK W,zBw,zVM _,rfl⟩⟩,Rat.mkRat_zero _⟩
section
variable {S:Nat->Prop} {w0:Wp} {K:List (Nat×KF)} {B:List Bx} {n:Nat} {a:Act} {w:Wp} {P:Wu} {Q:Exit->Act->Wp->Prop}
end
section
variable {f g f' g' f'' g'':UF}
end
section
variable {F:Fence} {m:Nat} {P:Wu} {w0:Wp} {ops:Array Oper} {G:Nat->SF} {d:Tmp} {ty:Wr} {pos:String} {aft:Array Edge}
end
section
variable {F:Fence} {m:Nat} {P:Wu} {w0:Wp} {ops:Array Oper} {G:Nat->SF} {d:Tmp} {ty:Wr} {pos:String} {aft:Array Edge}
theorem zLk {op:BinOp} {t:Wr} {x y:Wt} {t':Wr} (u v r:Bool) (ht:P.underlying t=some .bool) (hx: ∀q W,(fct G x).p q W->q= .bool u) (hy: ∀q W,(fct G y).p q W->q= .bool v) (hr:(match op with| .eql=>u==v| .neq=>u !=v|_=>false)=r) (ho:(match op with| .eql| .neq=>true|_=>false)=true) (hd: ∀W,(G d).p (.bool r) W:=by exact fun _=>rfl):qG F m P w0 ops G ⟨some d, .binOp op t x y t',ty,pos,aft,none⟩:=
 zDg (.bool u) (.bool v) (.bool r) hx hy (fun W=>by cases op<;>first|(cases ho;done)|simp [eqGuard]) (fun W=>by cases op<;>first|(cases ho;done)|(subst hr;cases u<;>cases v<;>simp [go_sem,ht])) hd
end
theorem zNq {x:PX} (h:x.big=false) (cs:List Wq) (W:Wp) (hc:(PX.cu x).p cs W):0+6<=cs.length/\(fPV 2 x.p).p (.agg ((cs.drop 0).take 6).toArray) W:=by
 obtain ⟨h1,h2⟩:=zNu cs W hc
 exact ⟨h1,zGJ h h2⟩
def zIZ (z:V2) (t:V6):V6:=(zBb t.1 z,zBb t.2.1 z,zBb t.2.2 z)
theorem zQP (a:List V2) (ts:List V6) (y z:V2):(ts.map (zIZ z)).any (fun t=> !(qD (yN a (zBb y z)) (tl t)))=ts.any fun t=> !(qD (yN a y) (tl t)):=by
 rw [List.any_map]
 congr 1
 funext t
 have e:yN a (zBb y z)=yN (yN a y) z:=by
  unfold yN
  rw [List.map_map]
  refine List.map_congr_left fun p _=> ?_
  show (p.1+(y.1+z.1),p.2+(y.2+z.2))=(p.1+y.1+z.1,p.2+y.2+z.2)
  rw [Rat.add_assoc,Rat.add_assoc]
 show (!(qD (yN a (zBb y z)) (yN (tl t) z)))=_
 rw [e,zHR]
theorem zQ5 {m:Nat} (hm0:0<m) {ts:List V6} {v:Wq} {W:Wp} (h:(SF.row 18 (trs m ts)).p v W) {i:Nat} (hi:i<ts.length): ∀p,p∈tl (at3 ts i)->QB p.1 m/\QB p.2 m:=by
 obtain ⟨_,_,_,_,_,_,h5⟩:=h
 obtain ⟨b,o,cs,_,_,h6⟩:=h5 i _ (zDz hi)
 obtain ⟨a,b,c,rfl,_,_,_,h1,h2,h3⟩:=zCs h6
 intro p hp
 rcases zVE.1 hp with rfl|hp
 ·exact zA8 hm0 (v:= .agg a.toArray) h1
 ·rcases zVE.1 hp with rfl|hp
  ·exact zA8 hm0 (v:= .agg b.toArray) h2
  ·obtain rfl:=zVK.1 hp
   exact zA8 hm0 (v:= .agg c.toArray) h3
theorem zNI {z:V2} {ts:List V6} {k:Nat} (h:k<ts.length):trs 5 ((ts.take (k+1)).map (zIZ z))=trs 5 ((ts.take k).map (zIZ z))++ [CU.agg (fTR 5 (zIZ z (at3 ts k)))]:=by
 unfold trs at3
 rw [List.take_add_one,zWf,zV4 h]
 simp only [zWg,Option.toList_some,List.map_cons,List.map_nil,Option.getD_some]
theorem zRD (m:Nat) (t:V6): ∀C,C∈ [CU.agg (fTR m t)]->CU.ok 18 C:=fun C hC=>by
 obtain rfl:C=_:=by simpa using hC
 exact zKc _ _
theorem zKs {z:Rat}:z.num.sign<0↔z<0:=by
 have n0:z<0↔z.num<0:=by rw [Rat.lt_iff];simp
 rw [n0]
 rcases zWh z.num 0 with h|h|h
 ·rw [zWn h];exact ⟨fun _=>h,fun _=>by decide⟩
 ·rw [h];decide
 ·rw [Int.sign_eq_one_of_pos h];exact ⟨fun h'=>absurd h' dB,fun h'=>by omega⟩
theorem zFz {z:Rat}:0<z.num.sign↔0<z:=by
 have p0:0<z↔0<z.num:=by rw [Rat.lt_iff];simp
 rw [p0]
 rcases zWh z.num 0 with h|h|h
 ·rw [zWn h];exact ⟨fun h'=>absurd h' dB,fun h'=>by omega⟩
 ·rw [h];decide
 ·rw [Int.sign_eq_one_of_pos h];exact ⟨fun _=>h,fun _=>by decide⟩
theorem zIP (m:Nat) (ps:List V2) (x:V2):pvs m ps++ [CU.agg (fPV m x)]=pvs m (ps++ [x]):=by simp [pvs]
theorem QB.inv {q:Rat} {m:Nat} (h:QB q m):QB q⁻¹ m:=by
 by_cases e:q=0
 ·subst e
  rw [Rat.inv_zero];exact h
 ·have hn:q.num≠0:=fun h0=>e (Rat.num_eq_zero.1 h0)
  refine vN h.pos (X:=(q.den:Int)) (D:=q.num) ?_ hn (zAb h.2) h.1
  have h1:(q.num:Rat)=q*((q.den:Nat):Rat):=zOW q
  rw [h1, <-Rat.mul_assoc,Rat.inv_mul_cancel q e,Rat.one_mul]
  rfl
theorem QB.div {p q:Rat} {m n:Nat} (h:QB p m) (h':QB q n):QB (p / q) (m+n):=by
 rw [Rat.div_def]
 exact h.mul h'.inv
section
variable {F:Fence} {m:Nat} {P:Wu} {w0:Wp} {ops:Array Oper} {G:Nat->SF} {d:Tmp} {ty:Wr} {pos:String} {aft:Array Edge}
theorem zHF {t e':Wr} {ie:TypeInfo} {z:Nat} (hu:P.underlying t=some (.slice e')) (hie:P.info? e'=some ie) (hsz:ie.size=z) (A:Ws Addr) (n c k:Nat) (hk:k<=n) (w:Wp):(Instr.sliceAt t (.slice A n c) (some (.int .i64 (k:Int))) none none).run P w= .ok (.slice (if c=k then A else A.map (·.add (k*z))) (n - k) (c - k)) w:=by
 simp [Instr.sliceAt,Instr.slice,Instr.sliceBounds,zVX hu,sizeOf,typeInfo,hie,hsz,go_sem,hk]
theorem zKx {t e':Wr} {ie:TypeInfo} (hu:P.underlying t=some (.slice e')) (hie:P.info? e'=some ie) (A:Ws Addr) (n c k:Nat) (hk:k<=c) (w:Wp):(Instr.sliceAt t (.slice A n c) none (some (.int .i64 (k:Int))) none).run P w= .ok (.slice A k c) w:=by
 simp [Instr.sliceAt,Instr.slice,Instr.sliceBounds,zVX hu,sizeOf,typeInfo,hie,go_sem,hk]
theorem zDH {x lo:Wt} {t:Wr} {z k:Nat} {Cs:List CU} (hz:zBE P t=some z) (hk:k<=Cs.length) (hx: ∀v W,Below w0.heap.size w0 W->(fct G x).p v W->(SF.row z Cs).p v W) (hh: ∀v W,(fct G lo).p v W->v= .int .i64 (k:Int)) (hd: ∀v W,(SF.row z (Cs.drop k)).p v W->(G d).p v W:=by exact fun _ _ h=>h):qG F m P w0 ops G ⟨some d, .slice t x (some lo) none none,ty,pos,aft,none⟩:=
 qH (fun _ e=>by cases e) (fun _ e=>by cases e) fun b W hb hp=>by
  obtain ⟨A,c,e,h2,h3,h4,h5⟩:=hx _ _ hb (hp x (by simp [Op.operands]))
  have e2:=hh _ _ (hp lo (by simp [Op.operands]))
  unfold zBE at hz
  split at hz<;>try cases hz
  rename_i e' hu
  obtain ⟨ie,hie,hsz⟩:=Option.map_eq_some_iff.1 hz
  refine ⟨.slice (if c=k then A else A.map (·.add (k*z))) (Cs.length - k) (c - k),by simp [execOp,e,e2,zHF hu hie hsz A Cs.length c k hk],hd _ _ ⟨_,c - k,by rw [zV6],by rw [zV6];omega,by omega,fun hA=> ?_,fun i C hi=> ?_⟩⟩
  ·split at hA
   ·omega
   ·cases A with
    |none=>have:=h4 rfl;omega
    |some q=>cases hA
  ·rw [List.getElem?_drop] at hi
   have hlt:=(zVS.1 hi).1
   obtain ⟨b',o,cs,rfl,h6,h7⟩:=h5 _ C hi
   rw [if_neg oP]
   refine ⟨b',o+k*z,cs,by simp [zV7], ?_,h7⟩
   rwa [show o+(k+i)*z=o+k*z+i*z by rw [Nat.add_mul];omega] at h6
theorem zNC {x hi:Wt} {t:Wr} {z k:Nat} {Cs:List CU} (hz:zBE P t=some z) (hk:k<=Cs.length) (hx: ∀v W,Below w0.heap.size w0 W->(fct G x).p v W->(SF.row z Cs).p v W) (hh: ∀v W,(fct G hi).p v W->v= .int .i64 (k:Int)) (hd: ∀v W,(SF.row z (Cs.take k)).p v W->(G d).p v W:=by exact fun _ _ h=>h):qG F m P w0 ops G ⟨some d, .slice t x none (some hi) none,ty,pos,aft,none⟩:=
 qH (fun _ e=>by cases e) (fun _ e=>by cases e) fun b W hb hp=>by
  obtain ⟨A,c,e,h2,h3,h4,h5⟩:=hx _ _ hb (hp x (by simp [Op.operands]))
  have e2:=hh _ _ (hp hi (by simp [Op.operands]))
  unfold zBE at hz
  split at hz<;>try cases hz
  rename_i e' hu
  obtain ⟨ie,hie,hsz⟩:=Option.map_eq_some_iff.1 hz
  have hkc:k<=c:=zVH hk h2
  refine ⟨.slice A k c,by simp [execOp,e,e2,zKx hu hie A Cs.length c k hkc],hd _ _ ⟨A,c,by rw [List.length_take,Nat.min_eq_left hk],by rw [List.length_take];omega,h3,h4,fun i C hi=> ?_⟩⟩
  rw [zWe] at hi
  split at hi
  ·exact h5 i C hi
  ·cases hi
end
section
variable {S:Nat->Prop} {F:Fence} {m:Nat} {P:Wu} {Q:Exit->Act->Wp->Prop} {w0:Wp} {K:List (Nat×KF)} {B:List Bx} {n:Nat} {ds:List Deferred} {a:Act} {w:Wp}
end
theorem zBh {F:Fence} {m:Nat} {P:Wu} {w0:Wp} {ops:Array Oper} {G:Nat->SF} {d:Tmp} {ty:Wr} {pos:String} {aft:Array Edge} {f:FuncId} {x y z q:Wt} {ats:Array Wr} (hF:zGo F m P) (he:Enters P f) (h: ∀u v r s W,Below w0.heap.size w0 W->(fct G x).p u W->(fct G y).p v W->(fct G z).p r W->(fct G q).p s W->Calls P f #[u,v,r,s] W (Ret W (G d))):qG F m P w0 ops G ⟨some d, .call ⟨.value (.func f),#[x,y,z,q],ats⟩,ty,pos,aft,none⟩:=
 zDf hF he fun b W hb hh=>by simpa using h _ _ _ _ W hb (hh x fP) (hh y fP) (hh z fP) (hh q fP)
section
variable {S:Nat->Prop} {w0 w1:Wp} {K K0:List (Nat×KF)} {n n0:Nat} {ds0:List Deferred} {a a0:Act} {w:Wp}
end
end Go.Proofs.Wd

namespace Go.Proofs.Wd
open Tryz
def nx (l:List V2) (k:Nat):Nat:=(k+1) % l.length
theorem qlt {p q:Rat}:qsg p q<0↔p<q:=by
 rcases zP2 p q with e|e|e
 ·rw [e];exact ⟨fun _=>zOK.1 e,fun _=>by decide⟩
 ·rw [e];exact ⟨fun h=>absurd h dB,fun h=>by rw [zRv.1 e] at h;exact absurd h (Rat.lt_irrefl)⟩
 ·rw [e];exact ⟨fun h=>absurd h dB,fun h=>absurd (zRu.1 e) (zV8.2 (Rat.le_of_lt h))⟩
theorem qgt {p q:Rat}:qsg p q>0↔q<p:=by
 have:=qlt (p:=q) (q:=p)
 rw [zKT p q] at this
 exact ⟨fun h=>this.1 oP,fun h=>by have:=this.2 h;omega⟩
def crz (v p:V2):Rat:=v.1*p.2 - v.2*p.1
theorem zMh (a b p:V2):crs a b p=crz (yL b a) p - crz (yL b a) a:=by unfold crs crz yL;grind
def lpt (a d:V2) (t:Rat):V2:=(a.1+d.1*t,a.2+d.2*t)
def jA (v:V2) (l:List V2):Nat->Rat
 |0=>0
 |k+1=>if (decide (k=0)||decide (qsg (crz v (at_ l k)) (jA v l k)>0))=true then crz v (at_ l k) else jA v l k
theorem zJa (v:V2) (l:List V2): ∀k,0<k->(∀j,j<k->crz v (at_ l j)<=jA v l k)/\ ∃j,j<k/\crz v (at_ l j)=jA v l k
 | k+1,_=>by
  by_cases h0:k=0
  ·subst h0
   have e:jA v l 1=crz v (at_ l 0):=by unfold jA;rw [if_pos fP]
   rw [e]
   exact ⟨fun j hj=>by rw [show j=0 by omega];exact zV9,0,by omega,rfl⟩
  ·obtain ⟨h1,j0,h2,h3⟩:=zJa v l k oP
   by_cases c:qsg (crz v (at_ l k)) (jA v l k)>0
   ·have e:jA v l (k+1)=crz v (at_ l k):=by
     show (if _ then _ else _)=_
     rw [if_pos (by simp [c])]
    have hc:=qgt.1 c
    rw [e]
    refine ⟨fun j hj=> ?_,k,by omega,rfl⟩
    rcases zVR (zVU hj) with q|q
    ·exact Rat.le_trans (h1 j q) (Rat.le_of_lt hc)
    ·rw [q];exact zV9
   ·have e:jA v l (k+1)=jA v l k:=by
     show (if _ then _ else _)=_
     rw [if_neg (by simp [h0,c])]
    have hc: ¬jA v l k<crz v (at_ l k):=fun h=>c (qgt.2 h)
    rw [e]
    refine ⟨fun j hj=> ?_,j0,by omega,h3⟩
    rcases zVR (zVU hj) with q|q
    ·exact h1 j q
    ·rw [q];exact zV8.1 hc
theorem zL2 {v:V2} {l:List V2} (hl:0<l.length) (c:Rat):0<jA v l l.length+c↔ ∃p,p∈l/\0<crz v p+c:=by
 obtain ⟨h1,j,hj,h2⟩:=zJa v l l.length hl
 constructor
 ·exact fun h=>⟨_,jO hj,by rw [h2];exact h⟩
 ·rintro ⟨p,hp,h⟩
  obtain ⟨i,hi,rfl⟩:=zGY hp
  have:=h1 i hi
  grind
abbrev nxt (l:List V2) (i:Nat):V2:=at_ l ((i+1) % l.length)
def evA (T R:List V2) (a d:V2) (i:Nat):V2:=
 ((jA (yL (nxt T i) (at_ T i)) R R.length - crz (yL (nxt T i) (at_ T i)) (at_ T i))+crz (yL (nxt T i) (at_ T i)) a,crz (yL (nxt T i) (at_ T i)) d)
def evB (T R:List V2) (a d:V2) (i:Nat):V2:=
 ((jA (yL (nxt R i) (at_ R i)) T T.length - crz (yL (nxt R i) (at_ R i)) (at_ R i)) - crz (yL (nxt R i) (at_ R i)) a,-(crz (yL (nxt R i) (at_ R i)) d))
def ev (e:V2) (t:Rat):Rat:=e.1+e.2*t
theorem zL6 {T R:List V2} (hR:0<R.length) (a d:V2) (i:Nat) (t:Rat):0<ev (evA T R a d i) t↔ ∃p,p∈yN R (lpt a d t)/\0<crs (at_ T i) (nxt T i) p:=by
 have e:ev (evA T R a d i) t=jA (yL (nxt T i) (at_ T i)) R R.length+(crz (yL (nxt T i) (at_ T i)) (lpt a d t) - crz (yL (nxt T i) (at_ T i)) (at_ T i)):=by
  unfold ev evA lpt
  generalize yL (nxt T i) (at_ T i)=v
  generalize jA v R R.length=f
  unfold crz
  simp only
  grind
 rw [e,zL2 hR]
 constructor
 ·rintro ⟨p,hp,h⟩
  refine ⟨zBb p (lpt a d t),zVN.2 ⟨p,hp,rfl⟩, ?_⟩
  rw [zMh]
  unfold crz zBb at*
  simp only at*
  grind
 ·rintro ⟨q,hq,h⟩
  obtain ⟨p,hp,rfl⟩:=zVN.1 hq
  refine ⟨p,hp, ?_⟩
  rw [zMh] at h
  unfold crz zBb at*
  simp only at*
  grind
theorem zLo {R:List V2} (x:V2) {i:Nat} (hi:i<R.length):nxt (yN R x) i=zBb (nxt R i) x:=by
 unfold nxt
 rw [zAM]
 exact zDw (Nat.mod_lt _ oP)
theorem zL5 {T R:List V2} (hT:0<T.length) (a d:V2) {i:Nat} (hi:i<R.length) (t:Rat):0<ev (evB T R a d i) t↔ ∃p,p∈T/\0<crs (at_ (yN R (lpt a d t)) i) (nxt (yN R (lpt a d t)) i) p:=by
 have e:ev (evB T R a d i) t=jA (yL (nxt R i) (at_ R i)) T T.length+(-(crz (yL (nxt R i) (at_ R i)) (lpt a d t)) - crz (yL (nxt R i) (at_ R i)) (at_ R i)):=by
  unfold ev evB lpt
  generalize yL (nxt R i) (at_ R i)=v
  generalize jA v T T.length=f
  unfold crz
  simp only
  grind
 rw [e,zL2 hT,zDw hi,zLo _ hi]
 have k: ∀p,crs (zBb (at_ R i) (lpt a d t)) (zBb (nxt R i) (lpt a d t)) p=crz (yL (nxt R i) (at_ R i)) p+(-(crz (yL (nxt R i) (at_ R i)) (lpt a d t)) - crz (yL (nxt R i) (at_ R i)) (at_ R i)):=fun p=>by
  unfold crs crz yL zBb
  simp only
  grind
 simp only [k]
def evs (T R:List V2) (a d:V2):List V2:=if R.length=0 then [(((0:Int):Rat),((0:Int):Rat))] else (List.range T.length).map (evA T R a d)++(List.range R.length).map (evB T R a d)
theorem zIf {T R:List V2} (hT:0<T.length) (a d:V2) (t:Rat):(∀e,e∈evs T R a d->0<ev e t)↔qD (yN R (lpt a d t)) T=false:=by
 unfold evs
 by_cases h0:R.length=0
 ·rw [if_pos h0]
  have hR:R= []:=List.eq_nil_of_length_eq_zero h0
  subst hR
  constructor
  ·intro h
   have:=h _ (zVK.2 rfl)
   have e0:ev (((0:Int):Rat),((0:Int):Rat)) t=0:=by unfold ev;show (0:Rat)+0*t=0;grind
   rw [e0] at this
   exact absurd this (by decide+kernel)
  ·intro h
   unfold qD at h
   rw [zV2] at h
   obtain ⟨k,hk,_⟩:=zK8 h.2 0 hT
   simp [yN] at hk
 ·rw [if_neg h0]
  have hR:0<R.length:=by omega
  unfold qD
  rw [zV2]
  constructor
  ·intro h
   constructor
   ·unfold zFf
    rw [zVT]
    intro i hi
    rw [zAM] at hi
    have hi:=zVO.1 hi
    obtain ⟨p,hp,e⟩:=(zL5 hT a d hi t).1 (h _ (zVV.2 (.inr (zVN.2 ⟨i,zVO.2 hi,rfl⟩))))
    intro hx
    have:=zIQ hx hp
    exact absurd e (zV8.2 this)
   ·unfold zFf
    rw [zVT]
    intro i hi
    have hi:=zVO.1 hi
    obtain ⟨p,hp,e⟩:=(zL6 hR a d i t).1 (h _ (zVV.2 (.inl (zVN.2 ⟨i,zVO.2 hi,rfl⟩))))
    intro hx
    have:=zIQ hx hp
    exact absurd e (zV8.2 this)
  ·rintro ⟨h1,h2⟩ e he
   rcases zVV.1 he with he|he
   ·obtain ⟨i,hi,rfl⟩:=zVN.1 he
    obtain ⟨k,hk,h⟩:=zK8 h2 i (zVO.1 hi)
    exact (zL6 hR a d i t).2 ⟨_,jO hk,h⟩
   ·obtain ⟨i,hi,rfl⟩:=zVN.1 he
    have hi:=zVO.1 hi
    obtain ⟨k,hk,h⟩:=zK8 h1 i (by rw [zAM];exact hi)
    exact (zL5 hT a d hi t).2 ⟨_,jO hk,h⟩
def zDN (s e:V2):V2×Bool:=
 if e.2.num.sign=0 then (s,decide (e.1.num.sign>0))
 else if (decide (e.2.num.sign>0)&&decide (qsg (-e.1 / e.2) s.1>0))=true then ((-e.1 / e.2,s.2),decide (qsg (-e.1 / e.2) s.2<0))
 else if (decide (e.2.num.sign<0)&&decide (qsg (-e.1 / e.2) s.2<0))=true then ((s.1,-e.1 / e.2),decide (qsg s.1 (-e.1 / e.2)<0))
 else (s,decide (qsg s.1 s.2<0))
def zJn (s:V2) (P:Rat->Prop):Prop:=s.1<s.2/\0<=s.1/\s.2<=1/\ ∀t,(s.1<t/\t<s.2)↔(0<t/\t<1)/\P t
theorem zG9 {e:V2} (h:0<e.2) (t:Rat):0<ev e t↔-e.1 / e.2<t:=by
 have k:(-e.1 / e.2)*e.2= -e.1:=Rat.div_mul_cancel (by grind)
 generalize -e.1 / e.2=x at*
 have:ev e t=(t - x)*e.2:=by unfold ev;grind
 rw [this]
 constructor
 ·intro h1
  apply zWa
  intro hx
  have:=Rat.mul_nonneg (show 0<=x - t by grind) (Rat.le_of_lt h)
  grind
 ·intro h1
  exact Rat.mul_pos (by grind) h
theorem zHa {e:V2} (h:e.2<0) (t:Rat):0<ev e t↔t< -e.1 / e.2:=by
 have k:(-e.1 / e.2)*e.2= -e.1:=Rat.div_mul_cancel (by grind)
 generalize -e.1 / e.2=x at*
 have:ev e t=(x - t)*(-e.2):=by unfold ev;grind
 rw [this]
 constructor
 ·intro h1
  apply zWa
  intro hx
  have:=Rat.mul_nonneg (show 0<=t - x by grind) (show 0<=-e.2 by grind)
  grind
 ·intro h1
  exact Rat.mul_pos (by grind) (by grind)
theorem zRI {a b:Rat} (h:a<b):a<(a+b) / 2/\(a+b) / 2<b:=by grind
theorem zSl {s e:V2} {P:Rat->Prop} (h:zJn s P):((zDN s e).2=true->zJn (zDN s e).1 fun t=>P t/\0<ev e t)/\((zDN s e).2=false-> ∀t, ¬((0<t/\t<1)/\P t/\0<ev e t)):=by
 obtain ⟨h1,h2,h3,h4⟩:=h
 unfold zDN
 by_cases c0:e.2.num.sign=0
 ·rw [if_pos c0]
  have z:e.2=0:=Rat.num_eq_zero.1 (Int.sign_eq_zero_iff_zero.1 c0)
  have ee: ∀t,ev e t=e.1:=fun t=>by unfold ev;rw [z];grind
  constructor
  ·intro hx
   have hp:0<e.1:=zFz.1 (zVI hx)
   refine ⟨h1,h2,h3,fun t=> ?_⟩
   rw [h4]
   simp only [ee]
   exact ⟨fun ⟨a,b⟩=>⟨a,b,hp⟩,fun ⟨a,b,_⟩=>⟨a,b⟩⟩
  ·intro hx t ⟨_,_,b⟩
   rw [ee] at b
   exact zVJ hx (zFz.2 b)
 ·rw [if_neg c0]
  by_cases c1:(decide (e.2.num.sign>0)&&decide (qsg (-e.1 / e.2) s.1>0))=true
  ·rw [if_pos c1]
   rw [zV5] at c1
   have hp:=zFz.1 (zVI c1.1)
   have hq:=qgt.1 (zVI c1.2)
   constructor
   ·intro hx
    have hl:=qlt.1 (zVI hx)
    refine ⟨hl,by simp only;grind,h3,fun t=> ?_⟩
    show (-e.1 / e.2<t/\t<s.2)↔(0<t/\t<1)/\P t/\0<ev e t
    rw [zG9 hp]
    constructor
    ·rintro ⟨a,b⟩
     have:=(h4 t).1 ⟨by grind,b⟩
     exact ⟨this.1,this.2,a⟩
    ·rintro ⟨a,b,c⟩
     exact ⟨c,((h4 t).2 ⟨a,b⟩).2⟩
   ·rintro hx t ⟨a,b,c⟩
    have:=zVJ hx
    rw [zG9 hp] at c
    exact this (qlt.2 (by have:=((h4 t).2 ⟨a,b⟩).2;grind))
  ·rw [if_neg c1]
   by_cases c2:(decide (e.2.num.sign<0)&&decide (qsg (-e.1 / e.2) s.2<0))=true
   ·rw [if_pos c2]
    rw [zV5] at c2
    have hp:=zKs.1 (zVI c2.1)
    have hq:=qlt.1 (zVI c2.2)
    constructor
    ·intro hx
     have hl:=qlt.1 (zVI hx)
     refine ⟨hl,h2,by simp only;grind,fun t=> ?_⟩
     show (s.1<t/\t< -e.1 / e.2)↔(0<t/\t<1)/\P t/\0<ev e t
     rw [zHa hp]
     constructor
     ·rintro ⟨a,b⟩
      have:=(h4 t).1 ⟨a,by grind⟩
      exact ⟨this.1,this.2,b⟩
     ·rintro ⟨a,b,c⟩
      exact ⟨((h4 t).2 ⟨a,b⟩).1,c⟩
    ·rintro hx t ⟨a,b,c⟩
     have:=zVJ hx
     rw [zHa hp] at c
     exact this (qlt.2 (by have:=((h4 t).2 ⟨a,b⟩).1;grind))
   ·rw [if_neg c2]
    have hS: ∀t,(s.1<t/\t<s.2)->0<ev e t:=fun t ht=>by
     rcases zWh e.2.num.sign 0 with q|q|q
     ·have hp:=zKs.1 q
      rw [zHa hp]
      apply zWa
      intro hx
      exact c2 (by rw [zWb q,zWb (qlt.2 (by grind))];rfl)
     ·exact absurd q c0
     ·have hp:=zFz.1 q
      rw [zG9 hp]
      apply zWa
      intro hx
      exact c1 (by rw [zWb q,zWb (qgt.2 (by grind))];rfl)
    constructor
    ·intro _
     refine ⟨h1,h2,h3,fun t=> ?_⟩
     constructor
     ·intro ht
      have:=(h4 t).1 ht
      exact ⟨this.1,this.2,hS t ht⟩
     ·rintro ⟨a,b,_⟩
      exact (h4 t).2 ⟨a,b⟩
    ·intro hx
     exact absurd (qlt.2 h1) (zVJ hx)
def zAA (es:List V2):Nat->V2×Bool
 |0=>((((0:Int):Rat),((1:Int):Rat)),true)
 |k+1=>if (zAA es k).2=true then zDN (zAA es k).1 (at_ es k) else zAA es k
theorem zJc {es:List V2} {k:Nat} (h:(zAA es k).2=true):zAA es (k+1)=zDN (zAA es k).1 (at_ es k):=by show (if _ then _ else _)=_;rw [if_pos h]
theorem zO5 {es:List V2} {k:Nat} (h:(zAA es k).2=false):zAA es (k+1)=zAA es k:=by show (if _ then _ else _)=_;rw [if_neg (by rw [h];decide)]
theorem zMg (es:List V2): ∀k,((zAA es k).2=true->zJn (zAA es k).1 fun t=> ∀j,j<k->0<ev (at_ es j) t)/\((zAA es k).2=false-> ∀t, ¬((0<t/\t<1)/\ ∀j,j<k->0<ev (at_ es j) t))
 |0=>⟨fun _=>⟨by show (0:Rat)<1;decide+kernel,zV9,zV9,fun t=>⟨fun h=>⟨h,fun j hj=>absurd hj (zVW _)⟩,fun h=>h.1⟩⟩,fun h=>by cases h⟩
 | k+1=>by
  have ih:=zMg es k
  cases c:(zAA es k).2 with
  | true=>
   rw [zJc c]
   obtain ⟨g1,g2⟩:=zSl (e:=at_ es k) (ih.1 c)
   have key: ∀t,(∀j,j<k+1->0<ev (at_ es j) t)↔((∀j,j<k->0<ev (at_ es j) t)/\0<ev (at_ es k) t):=fun t=>
    ⟨fun h=>⟨fun j hj=>h j oP,h k oP⟩,fun h j hj=>by
     rcases zVR (zVU hj) with q|q
     ·exact h.1 j q
     ·rw [q];exact h.2⟩
   simp only [key]
   exact ⟨g1,g2⟩
  |false=>
   rw [zO5 c,c]
   exact ⟨fun h=>(by cases h),fun _ t h=>ih.2 c t ⟨h.1,fun j hj=>h.2 j oP⟩⟩
theorem zHd {es:List V2} {k:Nat} (h:(zAA es k).2=false): ∀n,k<=n->(zAA es n).2=false
 |0,hn=>by rw [show k=0 by omega] at h;exact h
 | n+1,hn=>by
  rcases zVR hn with q|q
  ·have:=zHd h n oP
   show (if _ then _ else _:V2×Bool).2=false
   rw [if_neg (by rw [this];decide)]
   exact this
  ·rw [<-q];exact h
def zAX (T R:List V2) (a d:V2):V2×Bool:=zAA (evs T R a d) (evs T R a d).length
theorem zO7 {T R:List V2} (hT:0<T.length) (a d:V2):((zAX T R a d).2=true->zJn (zAX T R a d).1 fun t=>qD (yN R (lpt a d t)) T=false)/\((zAX T R a d).2=false-> ∀t,(0<t/\t<1)->qD (yN R (lpt a d t)) T=true):=by
 obtain ⟨h1,h2⟩:=zMg (evs T R a d) (evs T R a d).length
 have key: ∀t,(∀j,j<(evs T R a d).length->0<ev (at_ (evs T R a d) j) t)↔qD (yN R (lpt a d t)) T=false:=fun t=>by
  rw [<-zIf hT]
  constructor
  ·intro h e he
   obtain ⟨j,hj,rfl⟩:=zGY he
   exact h j hj
  ·exact fun h j hj=>h _ (jO hj)
 simp only [key] at h1 h2
 refine ⟨h1,fun h t ht=> ?_⟩
 have:=h2 h t
 cases c:qD (yN R (lpt a d t)) T with
 |true=>rfl
 |false=>exact absurd ⟨ht,c⟩ this
theorem zUj (es:List V2) (t0:Rat):(∀e,e∈es->0<ev e t0)-> ∃z:Rat,0<z/\ ∀t,t0 - z<t->t<t0+z-> ∀e,e∈es->0<ev e t:=by
 induction es with
 |nil=>exact fun _=>⟨1,by decide+kernel,fun t _ _ e he=>by cases he⟩
 | cons x es ih=>
  intro h
  obtain ⟨z,hz,h1⟩:=ih fun e he=>h e (List.mem_cons_of_mem _ he)
  have hx:=h x (List.mem_cons_self ..)
  -- the first one's own room
  obtain ⟨y,hy,h2⟩: ∃y:Rat,0<y/\ ∀t,t0 - y<t->t<t0+y->0<ev x t:=by
   by_cases c:x.2=0
   ·have e0: ∀t,ev x t=x.1:=fun t=>by unfold ev;rw [c];grind
    exact ⟨1,by decide+kernel,fun t _ _=>by rw [e0] at hx ⊢;exact hx⟩
   ·rcases (show x.2<0∨0<x.2 by grind) with q|q
    ·have k:=(zHa q t0).1 hx
     refine ⟨-x.1 / x.2 - t0,by grind,fun t _ h9=>(zHa q t).2 (by grind)⟩
    ·have k:=(zG9 q t0).1 hx
     refine ⟨t0 - -x.1 / x.2,by grind,fun t h9 _=>(zG9 q t).2 (by grind)⟩
  by_cases c:y<=z
  ·refine ⟨y,hy,fun t a b e he=> ?_⟩
   rcases zVE.1 he with rfl|he
   ·exact h2 t a b
   ·exact h1 t (by grind) (by grind) e he
  ·refine ⟨z,hz,fun t a b e he=> ?_⟩
   rcases zVE.1 he with rfl|he
   ·exact h2 t (by grind) (by grind)
   ·exact h1 t a b e he
theorem zJj {T R:List V2} (hT:0<T.length) (a d:V2):(zAX T R a d).2=false↔ ∀t,(0<=t/\t<=1)->qD (yN R (lpt a d t)) T=true:=by
 constructor
 ·intro h t ht
  cases c:qD (yN R (lpt a d t)) T with
  |true=>rfl
  | false=>
   obtain ⟨z,hz,hn⟩:=zUj _ t ((zIf hT a d t).2 c)
   -- a point between the ends, zUj t
   obtain ⟨s,s1,s2,s3⟩: ∃s:Rat,(0<s/\s<1)/\t - z<s/\s<t+z:=by
    by_cases e0:t=0
    ·by_cases q:z<=1
     ·exact ⟨z / 2,by grind,by grind,by grind⟩
     ·exact ⟨1 / 2,by grind,by grind,by grind⟩
    ·by_cases e1:t=1
     ·by_cases q:z<=1
      ·exact ⟨1 - z / 2,by grind,by grind,by grind⟩
      ·exact ⟨1 / 2,by grind,by grind,by grind⟩
     ·exact ⟨t,by grind,by grind,by grind⟩
   have:=(zO7 hT a d).2 h s s1
   rw [(zIf hT a d s).1 (hn s s2 s3)] at this
   cases this
 ·intro h
  cases c:(zAX T R a d).2 with
  |false=>rfl
  |true=>
   obtain ⟨h1,h2,h3,h4⟩:=(zO7 hT a d).1 c
   have hm:=zRI h1
   have:qD (yN R (lpt a d _)) T=false:=((h4 _).1 hm).2
   rw [h _ (by grind)] at this
   cases this
theorem zAT {v p:V2} {m n:Nat} (h1:QB v.1 m/\QB v.2 m) (h2:QB p.1 n/\QB p.2 n):QB (crz v p) (m+n+(m+n)+1):=(h1.1.mul h2.2).sub (h1.2.mul h2.1)
theorem zEQ {v:V2} {l:List V2} {m n:Nat} (h1:QB v.1 m/\QB v.2 m) (h2: ∀p,p∈l->QB p.1 n/\QB p.2 n) (hm:0<m): ∀k,k<=l.length->QB (jA v l k) (m+n+(m+n)+1)
 |0,_=>QB.zero oP
 |k+1,hk=>by
  have ih:=zEQ h1 h2 hm k oP
  show QB (if _ then _ else _) _
  split
  ·exact zAT h1 (h2 _ (jO oP))
  ·exact ih
theorem zRF {l:List V2} {i:Nat} (h:i<l.length):(i+1) % l.length<l.length:=Nat.mod_lt _ oP
theorem zHA {l:List V2} {n i:Nat} (hl: ∀p,p∈l->QB p.1 n/\QB p.2 n) (hi:i<l.length):QB (yL (nxt l i) (at_ l i)).1 (2*n+1)/\QB (yL (nxt l i) (at_ l i)).2 (2*n+1):=by
 have h1:=hl _ (jO (zRF hi))
 have h2:=hl _ (jO hi)
 exact ⟨(h1.1.sub h2.1).mono oP,(h1.2.sub h2.2).mono oP⟩
section
variable {T R:List V2} {a d:V2} {n k j:Nat}
theorem zRX (hT: ∀p,p∈T->QB p.1 n/\QB p.2 n) (hR: ∀p,p∈R->QB p.1 n/\QB p.2 n) (ha:QB a.1 k/\QB a.2 k) (hd:QB d.1 j/\QB d.2 j) {i:Nat} (hi:i<T.length):QB (evA T R a d i).1 (16*n+2*k+11)/\QB (evA T R a d i).2 (4*n+2*j+3):=by
 have h:=zHA hT hi
 have h1:=zEQ h hR oP R.length lr
 have h2:=zAT h (hT _ (jO hi))
 have h3:=zAT h ha
 exact ⟨((h1.sub h2).add h3).mono oP,(zAT h hd).mono oP⟩
theorem zRW (hT: ∀p,p∈T->QB p.1 n/\QB p.2 n) (hR: ∀p,p∈R->QB p.1 n/\QB p.2 n) (ha:QB a.1 k/\QB a.2 k) (hd:QB d.1 j/\QB d.2 j) {i:Nat} (hi:i<R.length):QB (evB T R a d i).1 (16*n+2*k+11)/\QB (evB T R a d i).2 (4*n+2*j+3):=by
 have h:=zHA hR hi
 have h1:=zEQ h hT oP T.length lr
 have h2:=zAT h (hR _ (jO hi))
 have h3:=zAT h ha
 exact ⟨((h1.sub h2).sub h3).mono oP,(zAT h hd).neg.mono oP⟩
theorem zO2 (hT: ∀p,p∈T->QB p.1 n/\QB p.2 n) (hR: ∀p,p∈R->QB p.1 n/\QB p.2 n) (ha:QB a.1 k/\QB a.2 k) (hd:QB d.1 j/\QB d.2 j): ∀e,e∈evs T R a d->QB e.1 (16*n+2*k+11)/\QB e.2 (4*n+2*j+3):=fun e he=>by
 unfold evs at he
 split at he
 ·obtain rfl:=zVK.1 he
  exact ⟨QB.zero oP,QB.zero oP⟩
 ·rcases zVV.1 he with he|he
  ·obtain ⟨i,hi,rfl⟩:=zVN.1 he
   exact zRX hT hR ha hd (zVO.1 hi)
  ·obtain ⟨i,hi,rfl⟩:=zVN.1 he
   exact zRW hT hR ha hd (zVO.1 hi)
theorem zGb (h:R.length=0):evs T R a d= [(((0:Int):Rat),((0:Int):Rat))]:=if_pos h
theorem zIe (h:R.length≠0):(evs T R a d).length=T.length+R.length:=by unfold evs;rw [if_neg h];simp
theorem zQz (h:R.length≠0) {i:Nat} (hi:i<T.length):at_ (evs T R a d) i=evA T R a d i:=by
 unfold evs at_;rw [if_neg h,zWf,List.getElem?_append_left (by simpa using hi)];simp [hi]
theorem zQy (h:R.length≠0) {i:Nat} (hi:i<R.length):at_ (evs T R a d) (T.length+i)=evB T R a d i:=by
 unfold evs at_;rw [if_neg h,zWf,List.getElem?_append_right fP];simp [hi]
end
theorem zQK {S0 z:V2} {m:Nat} (hS:QB S0.1 m/\QB S0.2 m) (hx:QB (-z.1 / z.2) m):QB (zDN S0 z).1.1 m/\QB (zDN S0 z).1.2 m:=by
 unfold zDN
 split
 ·exact hS
 ·split
  ·exact ⟨hx,hS.2⟩
  ·split
   ·exact ⟨hS.1,hx⟩
   ·exact hS
theorem zIi {es:List V2} {m n M:Nat} (h: ∀e,e∈es->QB e.1 m/\QB e.2 n) (hM:m+n<=M) (h0:0<M): ∀k,k<=es.length->QB (zAA es k).1.1 M/\QB (zAA es k).1.2 M
 |0,_=>⟨QB.zero h0,QB.one h0⟩
 | k+1,hk=>by
  have ih:=zIi h hM h0 k oP
  cases c:(zAA es k).2 with
  |true=>
   rw [zJc c]
   have:=h _ (jO (show k<es.length by omega))
   exact zQK ih ((this.1.neg.div this.2).mono hM)
  |false=>rw [zO5 c];exact ih
theorem zSt {T R:List V2} {a d:V2} {n k j M:Nat} (hT: ∀p,p∈T->QB p.1 n/\QB p.2 n) (hR: ∀p,p∈R->QB p.1 n/\QB p.2 n) (ha:QB a.1 k/\QB a.2 k) (hd:QB d.1 j/\QB d.2 j) (hM:20*n+2*k+2*j+14<=M):QB (zAX T R a d).1.1 M/\QB (zAX T R a d).1.2 M:=
 zIi (zO2 hT hR ha hd) oP oP _ lr
end Go.Proofs.Wd

namespace Go.Proofs.Wd
open Tryz
set_option maxRecDepth 100000
set_option maxHeartbeats 1000000
open Go.RowKit Lb
section
variable {f g f' g':UF}
end
theorem zQ0 {m:Nat} {W:Wp} {u v:Wq} {p q:V2} (h1:(fPV m p).p u W) (h2:(fPV m q).p v W) (hm:m<=2000) (hm0:0<m) (hT:Tab W):Calls prog 85 #[u,v] W (Ret W (fI (zET p q)).tS):=by
 refine yE [(fPV m p).tS,(fPV m q).tS] func85 rfl kI ⟨h1,h2,trivial⟩ fun a s=> ?_
 refine zVC ?_
 refine zB 0 [] hmix s kI
  zD fun a w1 s=> ?_
 refine yV (CU.agg (fPV m p)) rfl s kI (fun v W h=>q8 h) fun b2 a w s=> ?_
 refine yV (CU.agg (fPV m q)) rfl s kI (fun v W h=>q8 h) fun b3 a w s=> ?_
 refine y8 (uI 0) rfl s kI iiz fun a w s=> ?_
 refine zA rfl ?_
 refine zVC ?_
 refine zVC ?_
 refine zB 6 ((6, .X (fPV m p) 0)::(7, .Z (fRV m ((p).1)))::(8, .X (fPV m q) 0)::(9, .Z (fRV m ((q).1)))::(10, .Z (uI (qsg (p).1 (q).1)))::(5, .u (uI (qsg (p).1 (q).1))):: []) hmix s kI
  (oc (zR (C:=cg (fPV m p)) 0 kI)<|oc (yG (C:=cg (fPV m p)) (k:=0) 3 kI (h:=zHq))<|oc (zR (C:=cg (fPV m q)) 0 kI)<|oc (yG (C:=cg (fPV m q)) (k:=0) 3 kI (h:=zHq))<|oc (zL zE zGc (fun u0 u1 W hb (h0:RVp m ((p).1) u0 W) (h1:RVp m ((q).1) u1 W)=>zC8 h0 h1 hm hm0 (hT.below (s.up hb))))<|oc zG<|zD) fun a w2 s=> ?_
 refine zA rfl ?_
 refine zVC ?_
 refine zB 2 ((11, .Z (uI (qsg (p).1 (q).1)))::(12, .u (uB (qsg (p).1 (q).1 !=0))):: []) hmix s kI
  (oc zC<|oc (zT .i64 (qsg (p).1 (q).1) 0 (qsg (p).1 (q).1 !=0) iiz iiz rfl rfl)<|zD) fun a w3 s=> ?_
 refine zA rfl ?_
 refine StS.cond s (qsg (p).1 (q).1 !=0) iiz (fun e=> ?_) (fun e=> ?_)
 ·refine zVC ?_
  replace s:=s.drop [4]
  refine zB 2 ((13, .Z (uI (qsg (p).1 (q).1)))::(4, .u (uI (qsg (p).1 (q).1))):: []) hmix s kI
   (oc zC<|oc zG<|zD) fun a w4 s=> ?_
  refine zA rfl ?_
  refine zVD ?_
  exact wH s (t:=4) rfl (fun v W h=>by rw [zSo e];exact h)
 ·refine zVF ?_
  refine zVC ?_
  replace s:=s.drop [4]
  refine zB 6 ((14, .X (fPV m p) 3)::(15, .Z (fRV m ((p).2)))::(16, .X (fPV m q) 3)::(17, .Z (fRV m ((q).2)))::(18, .Z (uI (qsg (p).2 (q).2)))::(4, .u (uI (qsg (p).2 (q).2))):: []) hmix s kI
   (oc (zR (C:=cg (fPV m p)) 3 kI)<|oc (yG (C:=cg (fPV m p)) (k:=3) 3 kI (h:=zHp))<|oc (zR (C:=cg (fPV m q)) 3 kI)<|oc (yG (C:=cg (fPV m q)) (k:=3) 3 kI (h:=zHp))<|oc (zL zE zGc (fun u0 u1 W hb (h0:RVp m ((p).2) u0 W) (h1:RVp m ((q).2) u1 W)=>zC8 h0 h1 hm hm0 (hT.below (s.up hb))))<|oc zG<|zD) fun a w5 s=> ?_
  refine zA rfl ?_
  refine zVD ?_
  exact wH s (t:=4) rfl (fun v W h=>by rw [zSn e];exact h)
section
variable {F:Fence} {m:Nat} {P:Wu} {w0:Wp} {ops:Array Oper} {G:Nat->SF} {d:Tmp} {ty:Wr} {pos:String} {aft:Array Edge}
end
theorem zDv {S:Nat->Prop} {w0 w W:Wp} (h:BlS S w0 w) (hb:Below w.heap.size w W):BlS S w0 W:=⟨hb.os.trans h.os,hb.tape.trans h.tape,hb.output.trans h.output,zVH h.size hb.size,fun k hk hs=>(hb.block k (zWi hk h.size)).trans (h.block k hk hs)⟩
section
variable {f g f' g':UF} {m:Nat} {q:Rat}
end
end Go.Proofs.Wd

namespace Go.Proofs.Wd
open Tryz
set_option maxRecDepth 100000
set_option maxHeartbeats 1000000
open Go.RowKit Lb
theorem zTW (s:Bool) (A A':Ws Addr) (n n' c c':Nat) (s2:Bool) (B B':Ws Addr) (k k' d d':Nat):prog.built 79 [(0, .agg #[.bool s, .slice A n c, .slice A' n' c']),(1, .agg #[.bool s2, .slice B k d, .slice B' k' d'])]=some #[.bool s, .slice A n c, .slice A' n' c', .bool s2, .slice B k d, .slice B' k' d']:=by kernel_rfl
theorem zTX {f g:UF} {u v:Wq} {W:Wp} (hf:zPe f) (hg:zPe g) (hu:f.p u W) (hv:g.p v W): ∃cells,prog.built 79 [(0,u),(1,v)]=some cells/\(fPT f g).p (.agg cells) W:=by
 obtain ⟨s,A,n,c,A',n',c',rfl⟩:=hf _ _ hu
 obtain ⟨s2,B,k,d,B',k',d',rfl⟩:=hg _ _ hv
 exact ⟨_,zTW _ _ _ _ _ _ _ _ _ _ _ _ _ _,s,A,n,c,A',n',c',s2,B,k,d,B',k',d',rfl,hu,hv⟩
theorem zTT (s:Bool) (A A':Ws Addr) (n n' c c':Nat) (s2:Bool) (B B':Ws Addr) (k k' d d':Nat):prog.built 72 [(0, .agg #[.bool s, .slice A n c, .slice A' n' c']),(1, .agg #[.bool s2, .slice B k d, .slice B' k' d'])]=some #[.bool s, .slice A n c, .slice A' n' c', .bool s2, .slice B k d, .slice B' k' d']:=by kernel_rfl
theorem zUM {f g:UF} {u v:Wq} {W:Wp} (hf:zPe f) (hg:zPe g) (hu:f.p u W) (hv:g.p v W): ∃cells,prog.built 72 [(0,u),(1,v)]=some cells/\(fPT f g).p (.agg cells) W:=by
 obtain ⟨s,A,n,c,A',n',c',rfl⟩:=hf _ _ hu
 obtain ⟨s2,B,k,d,B',k',d',rfl⟩:=hg _ _ hv
 exact ⟨_,zTT _ _ _ _ _ _ _ _ _ _ _ _ _ _,s,A,n,c,A',n',c',s2,B,k,d,B',k',d',rfl,hu,hv⟩
theorem zRU {v:V2} {l:List V2} {k:Nat} (e:(decide (k=0)||decide (qsg (crz v (at_ l k)) (jA v l k)>0))=true):jA v l (k+1)=crz v (at_ l k):=if_pos e
theorem zRV {v:V2} {l:List V2} {k:Nat} (e:(decide (k=0)||decide (qsg (crz v (at_ l k)) (jA v l k)>0))=false):jA v l (k+1)=jA v l k:=if_neg (by rw [e];decide)
theorem zTM {S0 z:V2} (h:(z.2.num.sign==0)=true):zDN S0 z=(S0,decide (z.1.num.sign>0)):=if_pos (zVY.1 h)
theorem zTP {S0 z:V2} (h0:(z.2.num.sign==0)=false) (h1:(decide (z.2.num.sign>0)&&decide (qsg (-z.1 / z.2) S0.1>0))=true):zDN S0 z=((-z.1 / z.2,S0.2),decide (qsg (-z.1 / z.2) S0.2<0)):=by
 unfold zDN;rw [if_neg (zVZ.1 h0),if_pos h1]
theorem zTO {S0 z:V2} (h0:(z.2.num.sign==0)=false) (h1:(decide (z.2.num.sign>0)&&decide (qsg (-z.1 / z.2) S0.1>0))=false) (h2:(decide (z.2.num.sign<0)&&decide (qsg (-z.1 / z.2) S0.2<0))=true):zDN S0 z=((S0.1,-z.1 / z.2),decide (qsg S0.1 (-z.1 / z.2)<0)):=by
 unfold zDN;rw [if_neg (zVZ.1 h0),if_neg (by rw [h1];decide),if_pos h2]
theorem zTN {S0 z:V2} (h0:(z.2.num.sign==0)=false) (h1:(decide (z.2.num.sign>0)&&decide (qsg (-z.1 / z.2) S0.1>0))=false) (h2:(decide (z.2.num.sign<0)&&decide (qsg (-z.1 / z.2) S0.2<0))=false):zDN S0 z=(S0,decide (qsg S0.1 S0.2<0)):=by
 unfold zDN;rw [if_neg (zVZ.1 h0),if_neg (by rw [h1];decide),if_neg (by rw [h2];decide)]
section
variable {f g:UF}
theorem zKi {cs:List Wq} {W:Wp} (h:(CU.agg (fPT f g)).p cs W): ∃s A n c A' n' c' s2 B k d B' k' d',cs= [.bool s, .slice A n c, .slice A' n' c', .bool s2, .slice B k d, .slice B' k' d']/\f.p (.agg #[.bool s, .slice A n c, .slice A' n' c']) W/\g.p (.agg #[.bool s2, .slice B k d, .slice B' k' d']) W:=by
 obtain ⟨s,A,n,c,A',n',c',s2,B,k,d,B',k',d',e,g1,g2⟩:=h
 have r1:cs=_:=congrArg Array.toList (jG e)
 subst r1
 exact ⟨s,A,n,c,A',n',c',s2,B,k,d,B',k',d',rfl,g1,g2⟩
theorem zSO {q:Rat} (v:Wq) (W:Wp) (h:(fQN q).p v W):v.cells.size=3/\(∀u,u∈v.cells.toList->u.oneCell'=true)/\v.cells.toList.all zU=true/\ ∀cs,(CU.agg (fPT f g)).p cs W->0+3<=cs.length/\(CU.agg (fPT (fQN q) g)).p (jR cs 0 v.cells.toList) W:=by
 obtain ⟨sg,X,x1,x2,X',x3,x4,rfl⟩:=zA7 q _ _ h
 refine ⟨rfl,fun u hu=>zB1 u hu,rfl,fun cs hc=> ?_⟩
 obtain ⟨s,A,n,c,A',n',c',s2,B,k,d,B',k',d',rfl,g1,g2⟩:=zKi hc
 exact ⟨by simp,_,_,_,_,_,_,_,_,_,_,_,_,_,_,rfl,h,g2⟩
theorem zSN {q:Rat} (v:Wq) (W:Wp) (h:(fQN q).p v W):v.cells.size=3/\(∀u,u∈v.cells.toList->u.oneCell'=true)/\v.cells.toList.all zU=true/\ ∀cs,(CU.agg (fPT f g)).p cs W->3+3<=cs.length/\(CU.agg (fPT f (fQN q))).p (jR cs 3 v.cells.toList) W:=by
 obtain ⟨sg,X,x1,x2,X',x3,x4,rfl⟩:=zA7 q _ _ h
 refine ⟨rfl,fun u hu=>zB1 u hu,rfl,fun cs hc=> ?_⟩
 obtain ⟨s,A,n,c,A',n',c',s2,B,k,d,B',k',d',rfl,g1,g2⟩:=zKi hc
 exact ⟨by simp,_,_,_,_,_,_,_,_,_,_,_,_,_,_,rfl,g1,h⟩
theorem zMO {W w:Wp} {b:Nat} {cs:List Wq} {te:Wr} {z:Nat×Nat} (hT:Tab W) (hh:W.heap[b]?=some (.cells cs.toArray te z)) (hc:(CU.agg (fPT f g)).p cs W) (h:BlS (fun q=>q=b) W w):Tab w:=fun j hj=>by
 have hne:0≠b:=fun e=>by
  have h0:=hT 0 dB
  obtain ⟨s,A,n,c,A',n',c',s2,B,k,d,B',k',d',rfl,_⟩:=zKi hc
  subst e
  unfold World.cell? at h0
  simp only [hh] at h0
  simp at h0
 have hlt:=zV (hT j hj)
 exact (World.cell?_of_block (h.block _ hlt hne)).trans (hT j hj)
end
theorem zOb {W:Wp}:Calls prog 66 #[] W (Ret W (fPN (((0:Int):Rat),((0:Int):Rat))).tS):=by
 refine yE [] func66 rfl kI trivial fun a s=> ?_
 refine zVC ?_
 refine zB 0 [] hmix s kI
  zD fun a w1 s=> ?_
 refine zW (CU.len 6) (cs:=zP6) kI rfl s kI (fun W=>rfl) rfl fun b0 a w s=> ?_
 refine zA rfl ?_
 refine zVC ?_
 refine zB 3 ((1, .Z (fQN ((0:Int):Rat)))::(2, .Z (fQN ((0:Int):Rat)))::(3, .u (fPN (((0:Int):Rat),((0:Int):Rat)))):: []) hmix s kI
  (oc (zH zE zHb (fun u0 W hb (h0:u0= .int .i64 0)=>zHG 0 h0 dB))<|oc (zH zE zHb (fun u0 W hb (h0:u0= .int .i64 0)=>zHG 0 h0 dB))<|oc (yR (fun u v W (hu:QNp ((0:Int):Rat) u W) (hv:QNp ((0:Int):Rat) v W)=>zTX (zA7 _) (zA7 _) hu hv))<|zD) fun a w2 s=> ?_
 refine zN (CU.agg (fPN (((0:Int):Rat),((0:Int):Rat)))) ((fPN (((0:Int):Rat),((0:Int):Rat))).tS) rfl s kI rfl rfl rfl iiz iiz qZ fun a w s=> ?_
 refine zA rfl ?_
 refine zVD ?_
 exact wJ s (CU.agg (fPN (((0:Int):Rat),((0:Int):Rat)))) rfl kI rfl rfl (z4 _ _) (fun cs W h=>h)
theorem zN8 {W:Wp} {u l:Wq} {q:V2} {ps:List V2} (h1:(fPV 11 q).p u W) (hl:(SF.row 6 (pvs 5 ps)).p l W) (hn:ps.length<=1000000) (hT:Tab W):Calls prog 65 #[u,l] W (Ret W (zAB (fRV 33 (jA q ps ps.length)) (fB (decide (0<ps.length)))).tS):=by
 have hq:=zA8 dB h1
 have hps:=zFd dB hl
 refine yE [(fPV 11 q).tS,(UF.eq l).tS] func65 rfl kI ⟨h1,rfl,trivial⟩ fun a s=> ?_
 replace s:=s.renew [(0, .u (fPV 11 q)),(1, .u (UF.eq l))] (fmz ⟨.inr ⟨_,rfl, .head _⟩,fmz ⟨.inr ⟨_,rfl,mz1⟩,fnz⟩⟩)
 refine zVC ?_
 refine zB 0 [] hmix s kI
  zD fun a w1 s=> ?_
 refine yV (CU.agg (fPV 11 q)) rfl s kI (fun v W h=>q8 h) fun b2 a w s=> ?_
 refine zW (CU.agg (fRV 33 (jA q ps 0))) (cs:=zR3) kI rfl s kI (fun W=>zPD 33 W) rfl fun b4 a w s=> ?_
 refine y8 (uB false) rfl s kI iiz fun a w s=> ?_
 refine zA rfl ?_
 refine zVC ?_
 refine zVC ?_
 refine zB 3 ((9, .u (UF.eq l))::(10, .u (uI ((pvs 5 ps).length:Int)))::(11, .u (uI 0)):: []) hmix s kI
  (oc zC<|oc (yZ (z:=6) (Cs:=pvs 5 ps) kI (fun v W hb h=>(yJ hl h (s.up hb))) (fun _=>rfl))<|oc zC<|zD) fun a w2 s=> ?_
 refine zA rfl ?_
 refine zVG ?_
 refine zEt 4 (fun k=>CU.agg (fRV 33 (jA q ps k))) (fun k=>k<=ps.length) (fun k=> [(1, .u (UF.eq l)),(9, .u (UF.eq l)),(10, .u (uI ((pvs 5 ps).length:Int))),(11, .u (uI ((k:Nat):Int)))]) (fun k=>ps.length - k) (0:Nat) (zVM _) (s.keepK _ (fmz ⟨mz5,fmz ⟨.head _,fmz ⟨mz1,fmz ⟨mz2,fnz⟩⟩⟩⟩)) rfl fun k a w hx s=> ?_
 have hlz:(pvs 5 ps).length=ps.length:=by simp
 refine zVC ?_
 refine zB 1 ((12, .u (uB (decide ((k:Int)<((pvs 5 ps).length:Int))))):: []) hmix s kI
  (oc (zT .i64 (k:Int) ((pvs 5 ps).length:Int) (decide ((k:Int)<((pvs 5 ps).length:Int))) iiz iiz rfl rfl)<|zD) fun a w3 s=> ?_
 refine zA rfl ?_
 refine zVC ?_
 refine StS.cond s (decide ((k:Int)<((pvs 5 ps).length:Int))) iiz (fun e=> ?_) (fun e=> ?_)
 ·have hk:k<ps.length:=by have h7:=zVI e;rw [hlz] at h7;omega
  refine zVF ?_
  refine zVC ?_
  refine zVG ?_
  refine zVC ?_
  refine zB 3 ((13, .u (uI (k:Int)))::(14, .Y (fPV 5 (at_ ps k)))::(15, .u (fPV 5 (at_ ps k))):: []) hmix s kI
   (oc zC<|oc (yX (z:=6) (Cs:=pvs 5 ps) (i:=k) (C:=CU.agg (fPV 5 (at_ ps k))) kI (jU hk) (fun v W hb h=>(yJ hl h (s.up hb))) iiz)<|oc (zJ (f:=fPV 5 (at_ ps k)) 6 kI (hz:=z4 _ _))<|zD) fun a w4 s=> ?_
  refine zW (CU.len 6) (cs:=zP6) kI rfl s kI (fun W=>rfl) rfl fun b7 a w s=> ?_
  refine y8 (uI (k:Int)) rfl s kI iiz fun a w s=> ?_
  refine zN (CU.agg (fPV 5 (at_ ps k))) ((fPV 5 (at_ ps k)).tS) rfl s kI rfl rfl rfl iiz iiz qZ fun a w s=> ?_
  refine zA rfl ?_
  refine zVC ?_
  refine zB 3 ((16, .Z (fPV 11 q))::(17, .Z (fPV 5 (at_ ps k)))::(18, .u (fRV 33 (crz q (at_ ps k)))):: []) hmix s kI
   (oc (zJ (f:=fPV 11 q) 6 kI (hz:=z4 _ _))<|oc (zJ (f:=fPV 5 (at_ ps k)) 6 kI (hz:=z4 _ _))<|oc (zL zE zL7 (fun u0 u1 W hb (h0:(fPV 11 q).p u0 W) (h1:(fPV 5 (at_ ps k)).p u1 W)=>(zC0 (m:=11) (p:=q) (q:=at_ ps k) h0 (jD (m':=11) dB h1) (zA8 dB h0) (zA8 dB (jD (m':=11) dB h1)) dB dB (hT.below (s.up hb))).mono (wI (fun v W h=>wG (q:=crz q (at_ ps k)) h ((zAT hq (hps _ (jO hk))).mono dB)))))<|zD) fun a w5 s=> ?_
  refine zW (CU.len 3) (cs:=zR3) kI rfl s kI (fun W=>rfl) rfl fun b8 a w s=> ?_
  refine zN (CU.agg (fRV 33 (crz q (at_ ps k)))) ((fRV 33 (crz q (at_ ps k))).tS) rfl s kI rfl rfl rfl iiz iiz zBg fun a w s=> ?_
  refine zA rfl ?_
  refine zVC ?_
  refine zB 8 ((19, .Z (uI (k:Int)))::(20, .Z (uB (decide (k=0))))::(21, .Z (uB (decide (k=0))))::(22, .s (SF.imp ((decide (k=0))=false) ((fRV 33 (crz q (at_ ps k))).tS)))::(23, .s (SF.imp ((decide (k=0))=false) ((fRV 33 (jA q ps k)).tS)))::(24, .s (SF.imp ((decide (k=0))=false) ((uI (qsg (crz q (at_ ps k)) (jA q ps k))).tS)))::(25, .s (SF.imp ((decide (k=0))=false) ((uB (decide (qsg (crz q (at_ ps k)) (jA q ps k)>0))).tS)))::(26, .u (uB ((decide (k=0))||(decide (qsg (crz q (at_ ps k)) (jA q ps k)>0))))):: []) hmix s kI
   (oc zC<|oc (zT .i64 (k:Int) 0 (decide (k=0)) iiz iiz (by rw [Bool.eq_iff_iff,zVY,decide_eq_true_iff];omega) rfl)<|oc zC<|oc (zF 21 (decide (k=0)) kI iiz (fun e=>qO [] ((fRV 33 (crz q (at_ ps k))).tS) fnz fO kI (zJ (f:=fRV 33 (crz q (at_ ps k))) 3 kI (hz:=yQ _ _))) fM)<|oc (zF 21 (decide (k=0)) kI iiz (fun e=>qO [] ((fRV 33 (jA q ps k)).tS) fnz fO kI (zJ (f:=fRV 33 (jA q ps k)) 3 kI (hz:=yQ _ _))) fM)<|oc (zF 21 (decide (k=0)) kI iiz (fun e=>qO [(22,(fRV 33 (crz q (at_ ps k))).tS),(23,(fRV 33 (jA q ps k)).tS)] ((uI (qsg (crz q (at_ ps k)) (jA q ps k))).tS) (fmz ⟨fun v W h=>yS (c:=(decide (k=0))=false) (f:=(fRV 33 (crz q (at_ ps k))).tS) e h,fmz ⟨fun v W h=>yS (c:=(decide (k=0))=false) (f:=(fRV 33 (jA q ps k)).tS) e h,fnz⟩⟩) fO kI (zL zE zGc (fun u0 u1 W hb (h0:RVp 33 (crz q (at_ ps k)) u0 W) (h1:RVp 33 (jA q ps k) u1 W)=>zC8 (m:=33) h0 h1 dB dB (hT.below (s.up hb))))) fM)<|oc (zF 21 (decide (k=0)) kI iiz (fun e=>qO [(24,(uI (qsg (crz q (at_ ps k)) (jA q ps k))).tS)] ((uB (decide (qsg (crz q (at_ ps k)) (jA q ps k)>0))).tS) (fmz ⟨fun v W h=>yS (c:=(decide (k=0))=false) (f:=(uI (qsg (crz q (at_ ps k)) (jA q ps k))).tS) e h,fnz⟩) fO kI (zT .i64 (qsg (crz q (at_ ps k)) (jA q ps k)) 0 (decide (qsg (crz q (at_ ps k)) (jA q ps k)>0)) iiz iiz rfl rfl)) fM)<|oc (yC (decide (k=0)) iiz (fun e v W h=>zDF h e) (fun e v W h=>zCy (yS e h) e))<|zD) fun a w6 s=> ?_
  refine zA rfl ?_
  refine StS.cond s ((decide (k=0))||(decide (qsg (crz q (at_ ps k)) (jA q ps k)>0))) iiz (fun e=> ?_) (fun e=> ?_)
  ·refine zB 1 ((27, .u (fRV 33 (crz q (at_ ps k)))):: []) hmix s kI
    (oc (zJ (f:=fRV 33 (crz q (at_ ps k))) 3 kI (hz:=yQ _ _))<|zD) fun a w7 s=> ?_
   refine zN (CU.agg (fRV 33 (crz q (at_ ps k)))) ((fRV 33 (crz q (at_ ps k))).tS) rfl s kI rfl rfl rfl (yQ _ _) iiz zBg fun a w s=> ?_
   refine zA rfl ?_
   refine yF 1 ((28, .u (uI ((k+1:Nat):Int))):: []) s kI
    (oc (qA .i64 (k:Int) 1 ((k+1:Nat):Int) iiz iiz (wrap64 _ _ oP oP))<|zD) fun a w8 s=> ?_
   replace s:=s.drop [11]
   refine zCt (uI ((k+1:Nat):Int)) rfl s kI zC kI fun a w s=> ?_
   refine zA rfl ?_
   rw [<-zRU e] at s
   replace s:=s.popB
   replace s:=s.popB
   exact ⟨k+1,hk,(by show ps.length - (k+1)<ps.length - k;omega),s.keepK _ (fmz ⟨mz9,fmz ⟨zEb,fmz ⟨zLr,fmz ⟨.head _,fnz⟩⟩⟩⟩)⟩
  ·refine zVF ?_
   refine yF 1 ((28, .u (uI ((k+1:Nat):Int))):: []) s kI
    (oc (qA .i64 (k:Int) 1 ((k+1:Nat):Int) iiz iiz (wrap64 _ _ oP oP))<|zD) fun a w9 s=> ?_
   replace s:=s.drop [11]
   refine zCt (uI ((k+1:Nat):Int)) rfl s kI zC kI fun a w s=> ?_
   refine zA rfl ?_
   rw [<-zRV e] at s
   replace s:=s.popB
   replace s:=s.popB
   exact ⟨k+1,hk,(by show ps.length - (k+1)<ps.length - k;omega),s.keepK _ (fmz ⟨mz8,fmz ⟨mz9,fmz ⟨zEb,fmz ⟨.head _,fnz⟩⟩⟩⟩)⟩
 ·have hkN:k=ps.length:=by have h7:=zVJ e;rw [hlz] at h7;omega
  subst hkN
  refine zVL ?_
  refine zVC ?_
  refine zB 4 ((29, .u (fRV 33 (jA q ps (ps.length))))::(30, .Z (UF.eq l))::(31, .Z (uI ((pvs 5 ps).length:Int)))::(32, .u (uB (decide (0<ps.length)))):: []) hmix s kI
   (oc (zJ (f:=fRV 33 (jA q ps (ps.length))) 3 kI (hz:=yQ _ _))<|oc zC<|oc (yZ (z:=6) (Cs:=pvs 5 ps) kI (fun v W hb h=>(yJ hl h (s.up hb))) (fun _=>rfl))<|oc (zT .i64 ((pvs 5 ps).length:Int) 0 (decide (0<ps.length)) iiz iiz (by show decide (_>_)=_;rw [decide_eq_decide,zVQ];omega) rfl)<|zD) fun a w10 s=> ?_
  refine zN (CU.agg (fRV 33 (jA q ps (ps.length)))) ((fRV 33 (jA q ps (ps.length))).tS) rfl s kI rfl rfl rfl (yQ _ _) iiz zBg fun a w s=> ?_
  refine y8 (uB (decide (0<ps.length))) rfl s kI iiz fun a w s=> ?_
  refine zA rfl ?_
  refine zVD ?_
  exact wR s (CU.agg (fRV 33 (jA q ps (ps.length)))) rfl kI rfl rfl (yQ _ _) (fun cs v W h1 h2=>⟨_,_,rfl,h1,h2⟩)
theorem zSq {b:Nat} {W:Wp} {v:Wq} {S0 z:V2} {cs:List Wq} (hh:W.heap[b]?=some (.cells cs.toArray 72 (0,0))) (hc:(CU.agg (fPN S0)).p cs W) (hS:QB S0.1 430/\QB S0.2 430) (h1:(fPV 213 z).p v W) (hT:Tab W):Calls prog 42 #[pO b 0,v] W (zJW W b 72 (CU.agg (fPN (zDN S0 z).1)) (fB (zDN S0 z).2).tS):=by
 have hTb: ∀w,BlS (fun q=>q=b) W w->Tab w:=fun w h=>zMO hT hh hc h
 have hz:=zA8 dB h1
 have hqx:QB (-z.1 / z.2) 430:=(hz.1.neg.div hz.2).mono dB
 refine zEv b [(0,UF.eq (pO b 0)),(1,fPV 213 z)] [⟨0,72,CU.agg (fPN S0),b,false⟩] func42 rfl kI (fun x hx=>by simp at hx;rcases hx with rfl|rfl;exact ⟨by simp,rfl⟩;exact ⟨by simp,h1⟩) ⟨⟨cs,rfl, .inr (.inr rfl),hh,hc,(zB7 _ _ cs W hc).2.1,fun y hy=>by cases hy⟩,trivial⟩ (fun x hx=>by simp at hx;subst hx;simp) fun a s=> ?_
 refine zVC ?_
 refine zB 0 [] hmix s kI
  zD fun a w1 s=> ?_
 refine yV (CU.agg (fPV 213 z)) rfl s kI (fun v W h=>q8 h) fun b3 a w s=> ?_
 refine y8 (uB false) rfl s kI iiz fun a w s=> ?_
 refine zA rfl ?_
 refine zVC ?_
 refine zB 4 ((8, .X (fPV 213 z) 3)::(9, .Z (fRV 213 ((z).2)))::(10, .Z (uI (z.2.num.sign)))::(5, .u (uI (z.2.num.sign))):: []) hmix s kI
  (oc (zR (C:=cg (fPV 213 z)) 3 kI)<|oc (yG (C:=cg (fPV 213 z)) (k:=3) 3 kI (h:=zHp))<|oc (zH zE zQB (fun u0 W hb (h0:RVp 213 ((z).2) u0 W)=>zHL (m:=213) h0 dB dB (hTb _ (zDv s.gr hb))))<|oc zG<|zD) fun a w2 s=> ?_
 refine zA rfl ?_
 refine zVC ?_
 refine zVC ?_
 refine zB 2 ((11, .Z (uI (z.2.num.sign)))::(12, .u (uB (z.2.num.sign==0))):: []) hmix s kI
  (oc zC<|oc (zT .i64 (z.2.num.sign) 0 (z.2.num.sign==0) iiz iiz rfl rfl)<|zD) fun a w3 s=> ?_
 refine zA rfl ?_
 refine StS.cond s (z.2.num.sign==0) iiz (fun e=> ?_) (fun e=> ?_)
 ·have e0:=e
  refine zVC ?_
  replace s:=s.drop [4]
  refine zB 5 ((13, .X (fPV 213 z) 0)::(14, .Z (fRV 213 ((z).1)))::(15, .Z (uI (z.1.num.sign)))::(16, .Z (uB (decide (z.1.num.sign>0))))::(4, .u (uB (decide (z.1.num.sign>0)))):: []) hmix s kI
   (oc (zR (C:=cg (fPV 213 z)) 0 kI)<|oc (yG (C:=cg (fPV 213 z)) (k:=0) 3 kI (h:=zHq))<|oc (zH zE zQB (fun u0 W hb (h0:RVp 213 ((z).1) u0 W)=>zHL (m:=213) h0 dB dB (hTb _ (zDv s.gr hb))))<|oc (zT .i64 (z.1.num.sign) 0 (decide (z.1.num.sign>0)) iiz iiz rfl rfl)<|oc zG<|zD) fun a w4 s=> ?_
  refine zA rfl ?_
  refine zVD ?_
  rw [zTM e0]
  exact wV s (c:=0) (t:=4) rfl rfl rfl rfl (fun v W h=>h)
 ·have e0:=e
  refine zVF ?_
  refine zVC ?_
  have so:=s.old;have sg:=s.gr
  refine zAg (fun i=> [8].contains i) [⟨9,6,29, [.bool false, .slice none 0 0, .slice none 0 0],wF w3 29 (CU.len 3)⟩] 10 ((18, .X (fPV 213 z) 0)::(19, .Z (fRV 213 ((z).1)))::(20, .Z (fQN (-z.1)))::(21, .X (fPV 213 z) 3)::(22, .Z (fRV 213 ((z).2)))::(23, .Z (zAB (fQN (-z.1 / z.2)) (uI (if z.2=0 then 30 else 0))))::(17, .Z (zAB (fQN (-z.1 / z.2)) (uI (if z.2=0 then 30 else 0))))::(24, .u (fQN (-z.1 / z.2)))::(25, .u (uI (if z.2=0 then 30 else 0)))::(6, .s (wF w3 29 (CU.len 3))):: []) hmix s (fmz ⟨⟨by show 9<10;decide,mz9,⟨_,_,_,rfl⟩,by kernel_rfl,jE (fun _=>rfl) rfl⟩,fnz⟩) kI
   (oc (zR (C:=cg (fPV 213 z)) 0 kI)<|oc (yG (C:=cg (fPV 213 z)) (k:=0) 3 kI (h:=zHq))<|oc (zH zE zQC (fun u0 W hb (h0:RVp 213 ((z).1) u0 W)=>zKM (m:=213) h0 dB dB (hTb _ (zDv s.gr hb))))<|oc (zR (C:=cg (fPV 213 z)) 3 kI)<|oc (yG (C:=cg (fPV 213 z)) (k:=3) 3 kI (h:=zHp))<|oc (zL zE zTq (fun u0 u1 W hb (h0:QNp (-z.1) u0 W) (h1:RVp 213 ((z).2) u1 W)=>zRn (m:=213) (wG h0 hz.1.neg) h1 dB dB (hTb _ (zDv s.gr hb))))<|oc zC<|oc (zA3 (A:=(fQN (-z.1 / z.2)).tS) (B:=(uI (if z.2=0 then 30 else 0)).tS) iiz)<|oc (zA2 (A:=(fQN (-z.1 / z.2)).tS) (B:=(uI (if z.2=0 then 30 else 0)).tS) iiz)<|oc (zAz (cs:=zR3) kI (jE (fun _=>rfl) rfl))<|zD) fun Q' hQ a w5 s hr hd=> ?_
  obtain ⟨b6,hB6,e6,s⟩:=s.adoptA false 6 (hr (_,_) mz9) sg (fun y hy=> .inl (so y hy))
  refine zN (CU.agg (fQN (-z.1 / z.2))) ((fQN (-z.1 / z.2)).tS) rfl s kI rfl rfl rfl iiz iiz zY fun a w s=> ?_
  refine y8 (uI (if z.2=0 then 30 else 0)) rfl s kI iiz fun a w s=> ?_
  refine zA rfl (hQ _ _ ?_)
  refine zVC ?_
  refine zVG ?_
  refine zVC ?_
  refine zB 12 ((27, .Z (uI (z.2.num.sign)))::(28, .Z (uB (decide (z.2.num.sign>0))))::(29, .Z (uB (decide (z.2.num.sign>0))))::(30, .s (SF.imp ((decide (z.2.num.sign>0))=true) ((fQN (-z.1 / z.2)).tS)))::(31, .s (SF.imp ((decide (z.2.num.sign>0))=true) (wD b (cg (fPN S0)))))::(32, .s (SF.imp ((decide (z.2.num.sign>0))=true) (wB (cg (fPN S0)))))::(33, .s (SF.imp ((decide (z.2.num.sign>0))=true) (wB ((CU.agg (fPN S0)).cf.at 0))))::(34, .s (SF.imp ((decide (z.2.num.sign>0))=true) ((fQN (S0.1)).tS)))::(35, .s (SF.imp ((decide (z.2.num.sign>0))=true) ((uI (qsg (-z.1 / z.2) S0.1)).tS)))::(36, .s (SF.imp ((decide (z.2.num.sign>0))=true) ((uB (decide (qsg (-z.1 / z.2) S0.1>0))).tS)))::(37, .Z (uB ((decide (z.2.num.sign>0))&&(decide (qsg (-z.1 / z.2) S0.1>0)))))::(26, .u (uB ((decide (z.2.num.sign>0))&&(decide (qsg (-z.1 / z.2) S0.1>0))))):: []) hmix s kI
   (oc zC<|oc (zT .i64 (z.2.num.sign) 0 (decide (z.2.num.sign>0)) iiz iiz rfl rfl)<|oc zC<|oc (zF 29 (decide (z.2.num.sign>0)) kI iiz (fun e=>qO [] ((fQN (-z.1 / z.2)).tS) fnz fO kI (zJ (f:=fQN (-z.1 / z.2)) 3 kI (hz:=y5 _))) fM)<|oc (zF 29 (decide (z.2.num.sign>0)) kI iiz (fun e=>qO [] (wD b (cg (fPN S0))) fnz fO kI zC) fM)<|oc (zF 29 (decide (z.2.num.sign>0)) kI iiz (fun e=>qO [(31,wD b (cg (fPN S0)))] (wB (cg (fPN S0))) (fmz ⟨fun v W h=>yS (c:=(decide (z.2.num.sign>0))=true) (f:=wD b (cg (fPN S0))) e h,fnz⟩) fO kI (qK (C:=cg (fPN S0)))) fM)<|oc (zF 29 (decide (z.2.num.sign>0)) kI iiz (fun e=>qO [(32,wB (cg (fPN S0)))] (wB ((CU.agg (fPN S0)).cf.at 0)) (fmz ⟨fun v W h=>yS (c:=(decide (z.2.num.sign>0))=true) (f:=wB (cg (fPN S0))) e h,fnz⟩) fO kI (zR (C:=cg (fPN S0)) 0 kI)) fM)<|oc (zF 29 (decide (z.2.num.sign>0)) kI iiz (fun e=>qO [(33,wB ((CU.agg (fPN S0)).cf.at 0))] ((fQN (S0.1)).tS) (fmz ⟨fun v W h=>yS (c:=(decide (z.2.num.sign>0))=true) (f:=wB ((CU.agg (fPN S0)).cf.at 0)) e h,fnz⟩) fO kI (yG (C:=cg (fPN S0)) (k:=0) 3 kI (h:=zHq))) fM)<|oc (zF 29 (decide (z.2.num.sign>0)) kI iiz (fun e=>qO [(30,(fQN (-z.1 / z.2)).tS),(34,(fQN (S0.1)).tS)] ((uI (qsg (-z.1 / z.2) S0.1)).tS) (fmz ⟨fun v W h=>yS (c:=(decide (z.2.num.sign>0))=true) (f:=(fQN (-z.1 / z.2)).tS) e h,fmz ⟨fun v W h=>yS (c:=(decide (z.2.num.sign>0))=true) (f:=(fQN (S0.1)).tS) e h,fnz⟩⟩) fO kI (zL zE zGc (fun u0 u1 W hb (h0:QNp (-z.1 / z.2) u0 W) (h1:QNp (S0.1) u1 W)=>zC8 (m:=430) (wG h0 hqx) (wG h1 hS.1) dB dB (hTb _ (zDv s.gr hb))))) fM)<|oc (zF 29 (decide (z.2.num.sign>0)) kI iiz (fun e=>qO [(35,(uI (qsg (-z.1 / z.2) S0.1)).tS)] ((uB (decide (qsg (-z.1 / z.2) S0.1>0))).tS) (fmz ⟨fun v W h=>yS (c:=(decide (z.2.num.sign>0))=true) (f:=(uI (qsg (-z.1 / z.2) S0.1)).tS) e h,fnz⟩) fO kI (zT .i64 (qsg (-z.1 / z.2) S0.1) 0 (decide (qsg (-z.1 / z.2) S0.1>0)) iiz iiz rfl rfl)) fM)<|oc (yC (decide (z.2.num.sign>0)) iiz (fun e v W h=>zDb (yS e h) e) (fun e v W h=>zCa h e))<|oc zG<|zD) fun a w6 s=> ?_
  refine zA rfl ?_
  refine StS.cond s ((decide (z.2.num.sign>0))&&(decide (qsg (-z.1 / z.2) S0.1>0))) iiz (fun e=> ?_) (fun e=> ?_)
  ·have e1:=e
   refine zB 4 ((38, .Z (UF.eq (pO b 0)))::(39, .u (fQN (-z.1 / z.2)))::(40, .Z (UF.eq (pO b 0)))::(41, .u (UF.eq (pO b 0))):: []) hmix s kI
    (oc (zC (fun _ _ _ h=>h.1))<|oc (zJ (f:=fQN (-z.1 / z.2)) 3 kI (hz:=y5 _))<|oc (zA0 (a:=⟨b,0,none⟩) iiz)<|oc (jF (b:=b) (o:=0) 0 kI iiz)<|zD) fun a w7 s=> ?_
   refine qY (c:=0) (o:=0) (kk:=3) (CU.agg (fPN (((-z.1 / z.2),S0.2):V2))) ((fQN (-z.1 / z.2)).tS) rfl s kI rfl rfl iiz iiz zSO fun a w s=> ?_
   refine zA rfl ?_
   refine zVC ?_
   replace s:=s.drop [4]
   refine zB 11 ((58, .s (wD b (cg (fPN (((-z.1 / z.2),S0.2):V2)))))::(59, .Y (fPN (((-z.1 / z.2),S0.2):V2)))::(60, .X (fPN (((-z.1 / z.2),S0.2):V2)) 0)::(61, .Z (fQN (-z.1 / z.2)))::(62, .s (wD b (cg (fPN (((-z.1 / z.2),S0.2):V2)))))::(63, .Y (fPN (((-z.1 / z.2),S0.2):V2)))::(64, .X (fPN (((-z.1 / z.2),S0.2):V2)) 3)::(65, .Z (fQN (S0.2)))::(66, .Z (uI (qsg (-z.1 / z.2) S0.2)))::(67, .Z (uB (decide (qsg (-z.1 / z.2) S0.2<0))))::(4, .u (uB (decide (qsg (-z.1 / z.2) S0.2<0)))):: []) hmix s kI
    (oc zC<|oc (qK (C:=cg (fPN (((-z.1 / z.2),S0.2):V2))))<|oc (zR (C:=cg (fPN (((-z.1 / z.2),S0.2):V2))) 0 kI)<|oc (yG (C:=cg (fPN (((-z.1 / z.2),S0.2):V2))) (k:=0) 3 kI (h:=zHq))<|oc zC<|oc (qK (C:=cg (fPN (((-z.1 / z.2),S0.2):V2))))<|oc (zR (C:=cg (fPN (((-z.1 / z.2),S0.2):V2))) 3 kI)<|oc (yG (C:=cg (fPN (((-z.1 / z.2),S0.2):V2))) (k:=3) 3 kI (h:=zHp))<|oc (zL zE zGc (fun u0 u1 W hb (h0:QNp (-z.1 / z.2) u0 W) (h1:QNp (S0.2) u1 W)=>zC8 (m:=430) (wG h0 hqx) (wG h1 hS.2) dB dB (hTb _ (zDv s.gr hb))))<|oc (zT .i64 (qsg (-z.1 / z.2) S0.2) 0 (decide (qsg (-z.1 / z.2) S0.2<0)) iiz iiz rfl rfl)<|oc zG<|zD) fun a w8 s=> ?_
   refine zA rfl ?_
   refine zVD ?_
   rw [zTP e0 e1]
   exact wV s (c:=0) (t:=4) rfl rfl rfl rfl (fun v W h=>h)
  ·have e1:=e
   refine zVC ?_
   refine zB 12 ((43, .Z (uI (z.2.num.sign)))::(44, .Z (uB (decide (z.2.num.sign<0))))::(45, .Z (uB (decide (z.2.num.sign<0))))::(46, .s (SF.imp ((decide (z.2.num.sign<0))=true) ((fQN (-z.1 / z.2)).tS)))::(47, .s (SF.imp ((decide (z.2.num.sign<0))=true) (wD b (cg (fPN S0)))))::(48, .s (SF.imp ((decide (z.2.num.sign<0))=true) (wB (cg (fPN S0)))))::(49, .s (SF.imp ((decide (z.2.num.sign<0))=true) (wB ((CU.agg (fPN S0)).cf.at 3))))::(50, .s (SF.imp ((decide (z.2.num.sign<0))=true) ((fQN (S0.2)).tS)))::(51, .s (SF.imp ((decide (z.2.num.sign<0))=true) ((uI (qsg (-z.1 / z.2) S0.2)).tS)))::(52, .s (SF.imp ((decide (z.2.num.sign<0))=true) ((uB (decide (qsg (-z.1 / z.2) S0.2<0))).tS)))::(53, .Z (uB ((decide (z.2.num.sign<0))&&(decide (qsg (-z.1 / z.2) S0.2<0)))))::(42, .u (uB ((decide (z.2.num.sign<0))&&(decide (qsg (-z.1 / z.2) S0.2<0))))):: []) hmix s kI
    (oc zC<|oc (zT .i64 (z.2.num.sign) 0 (decide (z.2.num.sign<0)) iiz iiz rfl rfl)<|oc zC<|oc (zF 45 (decide (z.2.num.sign<0)) kI iiz (fun e=>qO [] ((fQN (-z.1 / z.2)).tS) fnz fO kI (zJ (f:=fQN (-z.1 / z.2)) 3 kI (hz:=y5 _))) fM)<|oc (zF 45 (decide (z.2.num.sign<0)) kI iiz (fun e=>qO [] (wD b (cg (fPN S0))) fnz fO kI zC) fM)<|oc (zF 45 (decide (z.2.num.sign<0)) kI iiz (fun e=>qO [(47,wD b (cg (fPN S0)))] (wB (cg (fPN S0))) (fmz ⟨fun v W h=>yS (c:=(decide (z.2.num.sign<0))=true) (f:=wD b (cg (fPN S0))) e h,fnz⟩) fO kI (qK (C:=cg (fPN S0)))) fM)<|oc (zF 45 (decide (z.2.num.sign<0)) kI iiz (fun e=>qO [(48,wB (cg (fPN S0)))] (wB ((CU.agg (fPN S0)).cf.at 3)) (fmz ⟨fun v W h=>yS (c:=(decide (z.2.num.sign<0))=true) (f:=wB (cg (fPN S0))) e h,fnz⟩) fO kI (zR (C:=cg (fPN S0)) 3 kI)) fM)<|oc (zF 45 (decide (z.2.num.sign<0)) kI iiz (fun e=>qO [(49,wB ((CU.agg (fPN S0)).cf.at 3))] ((fQN (S0.2)).tS) (fmz ⟨fun v W h=>yS (c:=(decide (z.2.num.sign<0))=true) (f:=wB ((CU.agg (fPN S0)).cf.at 3)) e h,fnz⟩) fO kI (yG (C:=cg (fPN S0)) (k:=3) 3 kI (h:=zHp))) fM)<|oc (zF 45 (decide (z.2.num.sign<0)) kI iiz (fun e=>qO [(46,(fQN (-z.1 / z.2)).tS),(50,(fQN (S0.2)).tS)] ((uI (qsg (-z.1 / z.2) S0.2)).tS) (fmz ⟨fun v W h=>yS (c:=(decide (z.2.num.sign<0))=true) (f:=(fQN (-z.1 / z.2)).tS) e h,fmz ⟨fun v W h=>yS (c:=(decide (z.2.num.sign<0))=true) (f:=(fQN (S0.2)).tS) e h,fnz⟩⟩) fO kI (zL zE zGc (fun u0 u1 W hb (h0:QNp (-z.1 / z.2) u0 W) (h1:QNp (S0.2) u1 W)=>zC8 (m:=430) (wG h0 hqx) (wG h1 hS.2) dB dB (hTb _ (zDv s.gr hb))))) fM)<|oc (zF 45 (decide (z.2.num.sign<0)) kI iiz (fun e=>qO [(51,(uI (qsg (-z.1 / z.2) S0.2)).tS)] ((uB (decide (qsg (-z.1 / z.2) S0.2<0))).tS) (fmz ⟨fun v W h=>yS (c:=(decide (z.2.num.sign<0))=true) (f:=(uI (qsg (-z.1 / z.2) S0.2)).tS) e h,fnz⟩) fO kI (zT .i64 (qsg (-z.1 / z.2) S0.2) 0 (decide (qsg (-z.1 / z.2) S0.2<0)) iiz iiz rfl rfl)) fM)<|oc (yC (decide (z.2.num.sign<0)) iiz (fun e v W h=>zDb (yS e h) e) (fun e v W h=>zCa h e))<|oc zG<|zD) fun a w9 s=> ?_
   refine zA rfl ?_
   refine StS.cond s ((decide (z.2.num.sign<0))&&(decide (qsg (-z.1 / z.2) S0.2<0))) iiz (fun e=> ?_) (fun e=> ?_)
   ·have e2:=e
    refine zB 4 ((54, .Z (UF.eq (pO b 0)))::(55, .u (fQN (-z.1 / z.2)))::(56, .Z (UF.eq (pO b 0)))::(57, .u (UF.eq (pO b 3))):: []) hmix s kI
     (oc (zC (fun _ _ _ h=>h.1))<|oc (zJ (f:=fQN (-z.1 / z.2)) 3 kI (hz:=y5 _))<|oc (zA0 (a:=⟨b,0,none⟩) iiz)<|oc (jF (b:=b) (o:=0) 3 kI iiz)<|zD) fun a w10 s=> ?_
    refine qY (c:=0) (o:=3) (kk:=3) (CU.agg (fPN ((S0.1,(-z.1 / z.2)):V2))) ((fQN (-z.1 / z.2)).tS) rfl s kI rfl rfl iiz iiz zSN fun a w s=> ?_
    refine zA rfl ?_
    refine zVC ?_
    replace s:=s.drop [4]
    refine zB 11 ((58, .s (wD b (cg (fPN ((S0.1,(-z.1 / z.2)):V2)))))::(59, .Y (fPN ((S0.1,(-z.1 / z.2)):V2)))::(60, .X (fPN ((S0.1,(-z.1 / z.2)):V2)) 0)::(61, .Z (fQN (S0.1)))::(62, .s (wD b (cg (fPN ((S0.1,(-z.1 / z.2)):V2)))))::(63, .Y (fPN ((S0.1,(-z.1 / z.2)):V2)))::(64, .X (fPN ((S0.1,(-z.1 / z.2)):V2)) 3)::(65, .Z (fQN (-z.1 / z.2)))::(66, .Z (uI (qsg S0.1 (-z.1 / z.2))))::(67, .Z (uB (decide (qsg S0.1 (-z.1 / z.2)<0))))::(4, .u (uB (decide (qsg S0.1 (-z.1 / z.2)<0)))):: []) hmix s kI
     (oc zC<|oc (qK (C:=cg (fPN ((S0.1,(-z.1 / z.2)):V2))))<|oc (zR (C:=cg (fPN ((S0.1,(-z.1 / z.2)):V2))) 0 kI)<|oc (yG (C:=cg (fPN ((S0.1,(-z.1 / z.2)):V2))) (k:=0) 3 kI (h:=zHq))<|oc zC<|oc (qK (C:=cg (fPN ((S0.1,(-z.1 / z.2)):V2))))<|oc (zR (C:=cg (fPN ((S0.1,(-z.1 / z.2)):V2))) 3 kI)<|oc (yG (C:=cg (fPN ((S0.1,(-z.1 / z.2)):V2))) (k:=3) 3 kI (h:=zHp))<|oc (zL zE zGc (fun u0 u1 W hb (h0:QNp (S0.1) u0 W) (h1:QNp (-z.1 / z.2) u1 W)=>zC8 (m:=430) (wG h0 hS.1) (wG h1 hqx) dB dB (hTb _ (zDv s.gr hb))))<|oc (zT .i64 (qsg S0.1 (-z.1 / z.2)) 0 (decide (qsg S0.1 (-z.1 / z.2)<0)) iiz iiz rfl rfl)<|oc zG<|zD) fun a w11 s=> ?_
    refine zA rfl ?_
    refine zVD ?_
    rw [zTO e0 e1 e2]
    exact wV s (c:=0) (t:=4) rfl rfl rfl rfl (fun v W h=>h)
   ·have e2:=e
    refine zVF ?_
    refine zVC ?_
    replace s:=s.drop [4]
    refine zB 11 ((58, .s (wD b (cg (fPN S0))))::(59, .Y (fPN S0))::(60, .X (fPN S0) 0)::(61, .Z (fQN (S0.1)))::(62, .s (wD b (cg (fPN S0))))::(63, .Y (fPN S0))::(64, .X (fPN S0) 3)::(65, .Z (fQN (S0.2)))::(66, .Z (uI (qsg S0.1 S0.2)))::(67, .Z (uB (decide (qsg S0.1 S0.2<0))))::(4, .u (uB (decide (qsg S0.1 S0.2<0)))):: []) hmix s kI
     (oc zC<|oc (qK (C:=cg (fPN S0)))<|oc (zR (C:=cg (fPN S0)) 0 kI)<|oc (yG (C:=cg (fPN S0)) (k:=0) 3 kI (h:=zHq))<|oc zC<|oc (qK (C:=cg (fPN S0)))<|oc (zR (C:=cg (fPN S0)) 3 kI)<|oc (yG (C:=cg (fPN S0)) (k:=3) 3 kI (h:=zHp))<|oc (zL zE zGc (fun u0 u1 W hb (h0:QNp (S0.1) u0 W) (h1:QNp (S0.2) u1 W)=>zC8 (m:=430) (wG h0 hS.1) (wG h1 hS.2) dB dB (hTb _ (zDv s.gr hb))))<|oc (zT .i64 (qsg S0.1 S0.2) 0 (decide (qsg S0.1 S0.2<0)) iiz iiz rfl rfl)<|oc zG<|zD) fun a w12 s=> ?_
    refine zA rfl ?_
    refine zVD ?_
    rw [zTN e0 e1 e2]
    exact wV s (c:=0) (t:=4) rfl rfl rfl rfl (fun v W h=>h)
end Go.Proofs.Wd

namespace Go.Proofs.Wd
open Tryz
set_option maxRecDepth 100000
set_option maxHeartbeats 1000000
open Go.RowKit Lb
def PSp (r t:Wq) (f g:UF) (x:Wq) (w:Wp):Prop:= ∃a b:List Wq,x= .agg (r::t::(a++b)).toArray/\(CU.agg f).p a w/\(CU.agg g).p b w/\(zU r=true/\zU t=true)
def fPS (r t:Wq) (f g:UF):UF:= .mk' (PSp r t f g) fun _ _ _ ⟨a,b,e,h1,h2,h3⟩ k=>⟨a,b,e,(CU.agg f).us _ _ _ h1 k,(CU.agg g).us _ _ _ h2 k,h3⟩
section
variable {r t:Wq} {f g f' g':UF}
theorem zD4 {cs:List Wq} {W:Wp} (h:(CU.agg (fPS r t (fPT f g) (fPT f' g'))).p cs W): ∃a b:List Wq,cs=r::t::(a++b)/\a.length=6/\b.length=6/\(CU.agg (fPT f g)).p a W/\(CU.agg (fPT f' g')).p b W/\(zU r=true/\zU t=true):=by
 obtain ⟨a,b,e,h1,h2,h3⟩:=h
 have e':cs=r::t::(a++b):=by simpa using congrArg Array.toList (jG e)
 exact ⟨a,b,e',z4 _ _ a W h1,z4 _ _ b W h2,h1,h2,h3⟩
theorem zRA {v:Wq} {W:Wp} (h:(fPS r t (fPT f g) (fPT f' g')).p v W):(CU.agg (fPS r t (fPT f g) (fPT f' g'))).p v.cells.toList W/\v.cells.toList.all zU=true:=by
 obtain ⟨a,b,rfl,h1,h2,h3,h4⟩:=h
 have e1:a.all zU=true:=(zB7 _ _ a W h1).2.1
 have e2:b.all zU=true:=(zB7 _ _ b W h2).2.1
 refine ⟨⟨a,b,rfl,h1,h2,h3,h4⟩, ?_⟩
 show (r::t::(a++b)).all zU=true
 simp [h3,h4,e1,e2]
theorem zUf (cs:List Wq) (W:Wp) (h:(CU.agg (fPS r t (fPT f g) (fPT f' g'))).p cs W): ∃x,cs[0]?=some x/\(UF.eq r).p x W:=by
 obtain ⟨a,b,rfl,_⟩:=zD4 h
 exact ⟨r,rfl,rfl⟩
theorem zUe (cs:List Wq) (W:Wp) (h:(CU.agg (fPS r t (fPT f g) (fPT f' g'))).p cs W): ∃x,cs[1]?=some x/\(UF.eq t).p x W:=by
 obtain ⟨a,b,rfl,_⟩:=zD4 h
 exact ⟨t,rfl,rfl⟩
theorem zUh (cs:List Wq) (W:Wp) (h:(CU.agg (fPS r t (fPT f g) (fPT f' g'))).p cs W):2+6<=cs.length/\(fPT f g).p (.agg ((cs.drop 2).take 6).toArray) W:=by
 obtain ⟨a,b,rfl,ha,hb,h1,h2,_⟩:=zD4 h
 refine ⟨by simp [ha,hb], ?_⟩
 have e:((r::t::(a++b)).drop 2).take 6=a:=by
  show (a++b).take 6=a
  rw [<-ha,List.take_left']
  rfl
 rw [e]
 exact h1
theorem zUg (cs:List Wq) (W:Wp) (h:(CU.agg (fPS r t (fPT f g) (fPT f' g'))).p cs W):8+6<=cs.length/\(fPT f' g').p (.agg ((cs.drop 8).take 6).toArray) W:=by
 obtain ⟨a,b,rfl,ha,hb,h1,h2,_⟩:=zD4 h
 refine ⟨by simp [ha,hb], ?_⟩
 have e:((r::t::(a++b)).drop 8).take 6=b:=by
  show ((a++b).drop 6).take 6=b
  rw [<-ha,List.drop_left' rfl,ha, <-hb,List.take_length]
 rw [e]
 exact h2
end
theorem zTV (R T:Ws Addr) (n n' c c':Nat) (s:Bool) (A A':Ws Addr) (i i' j j':Nat) (s2:Bool) (B B':Ws Addr) (k k' d d':Nat) (u:Bool) (C C':Ws Addr) (o o' p p':Nat) (u2:Bool) (D D':Ws Addr) (q q' x x':Nat):prog.built 76 [(0, .slice R n c),(1, .slice T n' c'),(2, .agg #[.bool s, .slice A i j, .slice A' i' j', .bool s2, .slice B k d, .slice B' k' d']),(3, .agg #[.bool u, .slice C o p, .slice C' o' p', .bool u2, .slice D q x, .slice D' q' x'])]=some #[.slice R n c, .slice T n' c', .bool s, .slice A i j, .slice A' i' j', .bool s2, .slice B k d, .slice B' k' d', .bool u, .slice C o p, .slice C' o' p', .bool u2, .slice D q x, .slice D' q' x']:=by kernel_rfl
theorem zUN {R T:Ws Addr} {n n' c c':Nat} {f g f' g':UF} {u v:Wq} {W:Wp} (hu:(fPT f g).p u W) (hv:(fPT f' g').p v W): ∃cells,prog.built 76 [(0, .slice R n c),(1, .slice T n' c'),(2,u),(3,v)]=some cells/\(fPS (.slice R n c) (.slice T n' c') (fPT f g) (fPT f' g')).p (.agg cells) W:=by
 obtain ⟨s,A,i,j,A',i',j',s2,B,k,d,B',k',d',rfl,h1,h2⟩:=hu
 obtain ⟨z,C,o,p,C',o',p',z2,D,q,x,D',q',x',rfl,h3,h4⟩:=hv
 exact ⟨_,zTV _ _ _ _ _ _ _ _ _ _ _ _ _ _ _ _ _ _ _ _ _ _ _ _ _ _ _ _ _ _ _ _ _ _, [.bool s, .slice A i j, .slice A' i' j', .bool s2, .slice B k d, .slice B' k' d'], [.bool z, .slice C o p, .slice C' o' p', .bool z2, .slice D q x, .slice D' q' x'],rfl,⟨_,_,_,_,_,_,_,_,_,_,_,_,_,_,rfl,h1,h2⟩,⟨_,_,_,_,_,_,_,_,_,_,_,_,_,_,rfl,h3,h4⟩,rfl,rfl⟩
/-! ### Iterators: what holds at each of their worlds -/
def Okw (C:Nat->Prop) (w w':Wp):Prop:=BlS C w w'/\jH w w'
theorem zGQ {C:Nat->Prop} {w w1 w2:Wp} (h:Okw C w w1) (hb:Below w1.heap.size w1 w2):Okw C w w2:=⟨h.1.trans hb,fun _p _x hp=>zP hb _ _ (h.2 _ _ hp)⟩
theorem zHY {C:Nat->Prop} {N:Nat} {w w1 w2:Wp} (h:Okw C w w1) (hi:Itr N w1 w2) (hN:w.heap.size<=N):Okw C w w2:=
 ⟨⟨hi.os.trans h.1.os,hi.tape.trans h.1.tape,hi.output.trans h.1.output,zVH h.1.size hi.size,fun k hk hc=>(hi.low k (zWi hk hN)).trans (h.1.block k hk hc)⟩,fun _p _x hp=>hi.keep _ _ (h.2 _ _ hp)⟩
theorem zP8 {C:Nat->Prop} {w w1 w2:Wp} (h:Okw C w w1) (hr:Rnd w.heap.size C w1 w2):Okw C w w2:=
 ⟨⟨hr.os.trans h.1.os,hr.tape.trans h.1.tape,hr.output.trans h.1.output,zVH h.1.size hr.size,fun k hk hc=>(hr.low k hk hc).trans (h.1.block k hk hc)⟩,fun _p _x hp=>hr.keep _ _ (h.2 _ _ hp)⟩
theorem zRO {P:Wu} {gf:Nat} {lb:Array Wq} {Ef:Nat->List UF} {N:Nat} {endless:Prop} {C:Nat->Prop} {w:Wp}
  (H: ∀(l:Nat) (J:Nat->Wp->Prop) (Z:Wp->Prop) (W:Wp),w.heap.size<=W.heap.size->Below w.heap.size w W->jH w W->
  (∀k W1 W2,J k W1->Itr W.heap.size W1 W2->J k W2)->(∀W1 W2,Z W1->Itr W.heap.size W1 W2->Z W2)->(endless-> ∀W, ¬J N W)->
  (∀k W1 xs,k<N->J k W1->Ev Ef k xs W1->YieldAt Fence.wide 0 P l xs W1 fun e W'=>((e= .returned (.bool true)/\J (k+1) W')∨(e= .returned (.bool false)/\Z W'))/\Rnd w.heap.size C W1 W')->
  (∀k W1,J k W1->Okw C w W1)->J 0 W->Calls P gf (#[.func (.yield l) #[] #[]]++lb) W fun e W'=>(∃v,e= .returned v)/\(J N W'∨Z W')):ItC P gf lb Ef N endless C w:=by
 intro l J Z W h1 h2 h3 hJ hZ hE hY hJ0
 have:=H l (fun k w1=>J k w1/\Okw C w w1) Z W h1 h2 h3 (fun k W1 W2 h hi=>⟨hJ _ _ _ h.1 hi,zHY h.2 hi h1⟩) hZ (fun he w1 h=>hE he _ h.1)
  (fun k W1 xs hk h hev=>by
   obtain ⟨fn,tmps,assign,body,hrun,hR⟩:=hY k W1 xs hk h.1 hev
   refine ⟨fn,tmps,assign,body,hrun,RoundIn.mono hR fun e W' he=>⟨?_,he.2⟩⟩
   rcases he.1 with ⟨e1,hj⟩|hz
   ·exact .inl ⟨e1,hj,zP8 h.2 he.2⟩
   ·exact .inr hz) (fun _ _ h=>h.2) ⟨hJ0,⟨⟨h2.os,h2.tape,h2.output,h2.size,fun k hk _=>h2.block k hk⟩,h3⟩⟩
 exact this.mono fun e W' h=>⟨h.1,h.2.imp (fun h=>h.1) (fun h=>h)⟩
theorem StS.boxN {w0 w1:Wp} {B1 B:List Bx} {K:List (Nat×KF)} {n N:Nat} {ds:List Deferred} {a:Act} (s:StS (inB B1) w0 K B n ds a w1) (hN: ∀x,x∈B1->x.r=false->N<=x.b) (hw:N<=w0.heap.size): ∀x,x∈B->x.r=false->N<=x.b:=fun x hx hr=>by
 obtain ⟨_,_,h,_⟩:=s.bx.mem x hx
 rcases h with h|h|⟨y,hy,e,hr'⟩
 ·rw [hr] at h;cases h
 ·exact zVH hw h
 ·exact e▸hN y hy hr'
section
variable {F:Fence} {m:Nat} {P:Wu} {w0:Wp} {ops:Array Oper} {G:Nat->SF} {d:Tmp} {ty:Wr} {pos:String} {aft:Array Edge} {x y:Wt} {t:Wr} {b:Nat}
theorem zM8 {i k:Nat} (hk:zHj P t i=some k) (W:Wp):(Instr.indexAt t (pO b 0) (.int .i64 (i:Int))).run P W= .ok (.pointer (some ⟨b,0+k,none⟩)) W:=by
 unfold zHj at hk
 split at hk<;>try cases hk
 rename_i n el hu
 split at hk<;>try cases hk
 rename_i ie hie
 split at hk<;>try cases hk
 rename_i hlt
 simp [Instr.indexAt,zVX hu,Instr.sureAddr,sizeOf,typeInfo,hie,zV7,asIntOf,hlt]
theorem zLg (i k:Nat) (hk:zHj P t i=some k) (hx: ∀v W,(fct G x).p v W->v= pO b 0) (hy: ∀v W,(fct G y).p v W->v= .int .i64 (i:Int)) (hd: ∀W,(G d).p (.pointer (some ⟨b,0+k,none⟩)) W:=by exact fun _=>rfl):qG F m P w0 ops G ⟨some d, .indexAddr t x y,ty,pos,aft,none⟩:=
 qH (fun _ e=>by cases e) (fun _ e=>by cases e) fun b W hb hh=>by
  have e1:=hx _ _ (hh x (by simp [Op.operands]))
  have e2:=hy _ _ (hh y (by simp [Op.operands]))
  exact ⟨_,by simp [execOp,e1,e2,zM8 hk],hd _⟩
theorem zIU {o:Nat} {cs:List Wq} (u:Wq) (ht:zBU P t=true) (hm:Mem w0 b o cs) (hu:cs[0]?=some u) (hx: ∀v W,(fct G x).p v W->v= pO b o) (hd: ∀W,(G d).p u W:=by exact fun _=>rfl):qG F m P w0 ops G ⟨some d, .load t x,ty,pos,aft,none⟩:=
 qH (fun _ e=>by cases e) (fun _ e=>by cases e) fun b W hb hh=>by
  have e1:=hx _ _ (hh x (by simp [Op.operands]))
  exact ⟨_,by simp [execOp,Instr.loadAt,e1,Instr.sureAddr,jS ht (hm.below hb) hu],hd _⟩
end
theorem zL4 (f:Wt->Wq) (x:Wt):(Array.map f #[x]).getD 0 undef=f x:=by simp
def zQU (T R:List V2) (i:Nat):Nat:=if i=0 then 0 else if i=1 then T.length else T.length+R.length
theorem zOc {W:Wp} {r t v:Wq} {f g f' g':UF} (h0:(fPS r t (fPT f g) (fPT f' g')).p v W):Calls prog 41 #[v] W (Ret W (zJL W 64 76 (CU.agg (fPS r t (fPT f g) (fPT f' g'))))):=by
 refine yE [(fPS r t (fPT f g) (fPT f' g')).tS] func41 rfl kI ⟨h0,trivial⟩ fun a s=> ?_
 refine zVC ?_
 refine zB 0 [] hmix s kI
  zD fun a w1 s=> ?_
 refine yV (CU.agg (fPS r t (fPT f g) (fPT f' g'))) rfl s kI (fun v W h=>zRA h) fun b1 a w s=> ?_
 refine y8 (UF.eq (.nilFunc)) rfl s kI iiz fun a w s=> ?_
 refine zA rfl ?_
 refine zVC ?_
 replace s:=s.drop [2]
 refine zB 2 ((3, .Z (UF.eq (.func (.func 64) #[] #[pO b1 0])))::(2, .u (UF.eq (.func (.func 64) #[] #[pO b1 0]))):: []) hmix s kI
  (oc (zDe (fun u W hb (h:(wD b1 (cg (fPS r t (fPT f g) (fPT f' g')))).p u W)=>by rw [h.1];rfl))<|oc zG<|zD) fun a w2 s=> ?_
 refine zA rfl ?_
 refine zVD ?_
 obtain ⟨cs,e1,e2,e3⟩:=s.boxAt (c:=1) rfl
 exact StS.resN s (zVP _ _) rfl ⟨b1,cs,s.val (.head _),s.inB_new ⟨_, .head _,rfl,rfl⟩,e1,e2,e3⟩
theorem zJM {T R:List V2} (p d:V2) (hT0:0<T.length) {i off:Nat} {px py:List V2} (hc:(i=0/\px=T/\py=R/\off=0)∨(i=1/\px=R/\py=T/\off=T.length)):
  zQU T R i=off/\zQU T R (i+1)=off+px.length/\(py.length=0->R.length=0/\i=0)/\(R.length=0->i=0->0<px.length)/\(∀k,k<px.length->R.length≠0->off+k<(evs T R p d).length)/\
  (∀k v0,v0=yL (nxt px k) (at_ px k)->k<px.length->R.length≠0->i≠1->at_ (evs T R p d) (off+k)=((jA v0 py py.length - crz v0 (at_ px k))+crz v0 p,crz v0 d))/\
  (∀k v0,v0=yL (nxt px k) (at_ px k)->k<px.length->R.length≠0->i=1->at_ (evs T R p d) (off+k)=((jA v0 py py.length - crz v0 (at_ px k)) - crz v0 p,-(crz v0 d))):=by
 rcases hc with ⟨rfl,rfl,rfl,rfl⟩|⟨rfl,rfl,rfl,rfl⟩
 ·refine ⟨rfl,by simp [zQU],fun h=>⟨h,rfl⟩,fun _ _=>hT0,fun k hk h=>by rw [zIe h];omega,fun k v0 e hk h _=> ?_,fun k v0 e hk h h1=>by cases h1⟩
  rw [Nat.zero_add,zQz h hk,e]
  rfl
 ·refine ⟨rfl,by simp [zQU],fun h=>by omega,fun _ h=>(by cases h),fun k hk h=>by rw [zIe h];omega,fun k v0 e hk h h1=>absurd rfl h1,fun k v0 e hk h _=> ?_⟩
  rw [zQy h hk,e]
  rfl
theorem zMk {w_:Wp} {b:Nat} {r t:Wq} {cs:List Wq} {T R:List V2} {p d:V2} {C:Nat->Prop} (hh:w_.heap[b]?=some (.cells cs.toArray 76 (0,0))) (hc:(CU.agg (fPS r t (fPV 47 p) (fPV 95 d))).p cs w_) (hcn:cs.all zU=true)
  (hst: ∀w,Okw C w_ w->(SF.row 6 (pvs 5 R)).p r w/\(SF.row 6 (pvs 5 T)).p t w/\Tab w) (hCl: ∀k,C k->k<w_.heap.size) (hCb: ¬C b) (hnR:R.length<=1000000) (hnT:T.length<=1000000) (hT0:0<T.length):
  ItC prog 64 #[pO b 0] (fun k=> [fPV 213 (at_ (evs T R p d) k)]) (evs T R p d).length False C w_:=by
 refine zRO ?_
 intro l_ J Z W hwW hbW hkW hJs hZs hend hround hJok hJ0
 have hok0:Okw C w_ w_:=⟨BlS.refl _ _,fun _ _ h=>h⟩
 obtain ⟨A,c,rfl,_⟩:=(hst w_ hok0).1
 obtain ⟨A',c',rfl,_⟩:=(hst w_ hok0).2.1
 have hpq:=zA8 dB (zUh _ _ hc).2
 have hdq:=zA8 dB (zUg _ _ hc).2
 have hhW:W.heap[b]?=some (.cells cs.toArray 76 (0,0)):=(hbW.block b (zV0.1 hh).1).trans hh
 have hcW:=(CU.agg (fPS (.slice A (pvs 5 R).length c) (.slice A' (pvs 5 T).length c') (fPV 47 p) (fPV 95 d))).us _ _ _ hc hkW
 refine zI6 func64 rfl ?_
 have s:=zIz (w:=W) (fn:=f64) (args:=#[.func (.yield l_) #[] #[]]++#[pO b 0]) noS [(0,UF.eq (.func (.yield l_) #[] #[]))] [⟨1,76,CU.agg (fPS (.slice A (pvs 5 R).length c) (.slice A' (pvs 5 T).length c') (fPV 47 p) (fPV 95 d)),b,true⟩] kI (fun q hq=>by obtain rfl:=zVK.1 hq;exact ⟨by simp,rfl⟩) ⟨⟨cs,rfl, .inl rfl,hhW,hcW,hcn,fun y hy=>by cases hy⟩,trivial⟩ (fun x hx=>by obtain rfl:=zVK.1 hx;show 1<2;decide)
 generalize ({ tmps:=#[.func (.yield l_) #[] #[]]++#[pO b 0]++Array.replicate (f64.ntmps - (#[.func (.yield l_) #[] #[]]++#[pO b 0]:Array Wq).size) undef,defers:= [] }:Act)=a at s ⊢
 refine zVC ?_
 refine zB 11 ((17, .X (fPS (.slice A (pvs 5 R).length c) (.slice A' (pvs 5 T).length c') (fPV 47 p) (fPV 95 d)) 1)::(18, .Z (UF.eq (.slice A' (pvs 5 T).length c')))::(19, .X (fPS (.slice A (pvs 5 R).length c) (.slice A' (pvs 5 T).length c') (fPV 47 p) (fPV 95 d)) 0)::(20, .Z (UF.eq (.slice A (pvs 5 R).length c)))::(21, .Z (UF.eq (.agg #[.slice A' (pvs 5 T).length c', .slice A (pvs 5 R).length c])))::(22, .X (fPS (.slice A (pvs 5 R).length c) (.slice A' (pvs 5 T).length c') (fPV 47 p) (fPV 95 d)) 0)::(23, .Z (UF.eq (.slice A (pvs 5 R).length c)))::(24, .X (fPS (.slice A (pvs 5 R).length c) (.slice A' (pvs 5 T).length c') (fPV 47 p) (fPV 95 d)) 1)::(25, .Z (UF.eq (.slice A' (pvs 5 T).length c')))::(26, .Z (UF.eq (.agg #[.slice A (pvs 5 R).length c, .slice A' (pvs 5 T).length c'])))::(27, .u (UF.eq (.agg #[.slice A' (pvs 5 T).length c', .slice A (pvs 5 R).length c, .slice A (pvs 5 R).length c, .slice A' (pvs 5 T).length c']))):: []) hmix s kI
  (oc (zR (C:=cg (fPS (.slice A (pvs 5 R).length c) (.slice A' (pvs 5 T).length c') (fPV 47 p) (fPV 95 d))) 1 kI)<|oc (jP (C:=cg (fPS (.slice A (pvs 5 R).length c) (.slice A' (pvs 5 T).length c') (fPV 47 p) (fPV 95 d))) (k:=1) kI (h:=zUe))<|oc (zR (C:=cg (fPS (.slice A (pvs 5 R).length c) (.slice A' (pvs 5 T).length c') (fPV 47 p) (fPV 95 d))) 0 kI)<|oc (jP (C:=cg (fPS (.slice A (pvs 5 R).length c) (.slice A' (pvs 5 T).length c') (fPV 47 p) (fPV 95 d))) (k:=0) kI (h:=zUf))<|oc (yR (fun u v W (hu:u= .slice A' (pvs 5 T).length c') (hv:v= .slice A (pvs 5 R).length c)=>by subst hu hv;exact ⟨_,bA2 _ _ _ _ _ _,rfl⟩))<|oc (zR (C:=cg (fPS (.slice A (pvs 5 R).length c) (.slice A' (pvs 5 T).length c') (fPV 47 p) (fPV 95 d))) 0 kI)<|oc (jP (C:=cg (fPS (.slice A (pvs 5 R).length c) (.slice A' (pvs 5 T).length c') (fPV 47 p) (fPV 95 d))) (k:=0) kI (h:=zUf))<|oc (zR (C:=cg (fPS (.slice A (pvs 5 R).length c) (.slice A' (pvs 5 T).length c') (fPV 47 p) (fPV 95 d))) 1 kI)<|oc (jP (C:=cg (fPS (.slice A (pvs 5 R).length c) (.slice A' (pvs 5 T).length c') (fPV 47 p) (fPV 95 d))) (k:=1) kI (h:=zUe))<|oc (yR (fun u v W (hu:u= .slice A (pvs 5 R).length c) (hv:v= .slice A' (pvs 5 T).length c')=>by subst hu hv;exact ⟨_,bA2 _ _ _ _ _ _,rfl⟩))<|oc (yR (fun u v W (hu:u= .agg #[.slice A' (pvs 5 T).length c', .slice A (pvs 5 R).length c]) (hv:v= .agg #[.slice A (pvs 5 R).length c, .slice A' (pvs 5 T).length c'])=>by subst hu hv;exact ⟨_,zUo _ _ _ _ _ _ _ _ _ _ _ _,rfl⟩))<|zD) fun a w1 s=> ?_
 refine zW (CU.len 4) (cs:= [.slice none 0 0, .slice none 0 0, .slice none 0 0, .slice none 0 0]) kI rfl s kI (fun W=>rfl) rfl fun b3 a w s=> ?_
 refine zN (CU.agg (UF.eq (.agg #[.slice A' (pvs 5 T).length c', .slice A (pvs 5 R).length c, .slice A (pvs 5 R).length c, .slice A' (pvs 5 T).length c']))) ((UF.eq (.agg #[.slice A' (pvs 5 T).length c', .slice A (pvs 5 R).length c, .slice A (pvs 5 R).length c, .slice A' (pvs 5 T).length c'])).tS) rfl s kI rfl rfl rfl iiz iiz (zDx (vs:= [.slice A' (pvs 5 T).length c', .slice A (pvs 5 R).length c, .slice A (pvs 5 R).length c, .slice A' (pvs 5 T).length c']) rfl (by intro u hu;simp at hu;rcases hu with rfl|rfl|rfl|rfl<;>rfl) rfl) fun a w s=> ?_
 refine zA rfl ?_
 refine zVC ?_
 refine zB 2 ((28, .u (UF.eq (.agg #[.slice A' (pvs 5 T).length c', .slice A (pvs 5 R).length c, .slice A (pvs 5 R).length c, .slice A' (pvs 5 T).length c'])))::(29, .u (uI 0)):: []) hmix s kI
  (oc (zJ (f:=UF.eq (.agg #[.slice A' (pvs 5 T).length c', .slice A (pvs 5 R).length c, .slice A (pvs 5 R).length c, .slice A' (pvs 5 T).length c'])) 4 kI (hz:=zMs (vs:= [.slice A' (pvs 5 T).length c', .slice A (pvs 5 R).length c, .slice A (pvs 5 R).length c, .slice A' (pvs 5 T).length c']) rfl))<|oc zC<|zD) fun a w2 s=> ?_
 refine zA rfl ?_
 refine zVG ?_
 have hJw:J (zQU T R 0) w2:=hJs 0 _ _ hJ0 (zDo s.below lr)
 have hW0:=s.gr.size
 have hb3:W.heap.size<=b3:=s.inB_new ⟨_, .head _,rfl,rfl⟩
 have hN1: ∀x,x∈([⟨3,97,CU.agg (UF.eq (.agg #[.slice A' (pvs 5 T).length c', .slice A (pvs 5 R).length c, .slice A (pvs 5 R).length c, .slice A' (pvs 5 T).length c'])),b3,false⟩,⟨1,76,CU.agg (fPS (.slice A (pvs 5 R).length c) (.slice A' (pvs 5 T).length c') (fPV 47 p) (fPV 95 d)),b,true⟩]:List Bx)->x.r=false->W.heap.size<=x.b:=fun x hx hr1=>by rcases zVE.1 hx with rfl|hx;exact hb3;obtain rfl:=zVK.1 hx;cases hr1
 replace s:=(s.keepK [(0, .u (UF.eq (.func (.yield l_) #[] #[]))),(28, .u (UF.eq (.agg #[.slice A' (pvs 5 T).length c', .slice A (pvs 5 R).length c, .slice A (pvs 5 R).length c, .slice A' (pvs 5 T).length c']))),(29, .u (uI ((0:Nat):Int)))] (fmz ⟨mz3,fmz ⟨.head _,fmz ⟨mz1,fnz⟩⟩⟩)).self (qX kI)
 refine zCC (fun i a w=>i<=2/\(R.length=0->i=0)/\J (zQU T R i) w/\W.heap.size<=w.heap.size/\StS (inB [⟨3,97,CU.agg (UF.eq (.agg #[.slice A' (pvs 5 T).length c', .slice A (pvs 5 R).length c, .slice A (pvs 5 R).length c, .slice A' (pvs 5 T).length c'])),b3,false⟩,⟨1,76,CU.agg (fPS (.slice A (pvs 5 R).length c) (.slice A' (pvs 5 T).length c') (fPV 47 p) (fPV 95 d)),b,true⟩]) w [(0, .u (UF.eq (.func (.yield l_) #[] #[]))),(28, .u (UF.eq (.agg #[.slice A' (pvs 5 T).length c', .slice A (pvs 5 R).length c, .slice A (pvs 5 R).length c, .slice A' (pvs 5 T).length c']))),(29, .u (uI ((i:Nat):Int)))] [⟨3,97,CU.agg (UF.eq (.agg #[.slice A' (pvs 5 T).length c', .slice A (pvs 5 R).length c, .slice A (pvs 5 R).length c, .slice A' (pvs 5 T).length c'])),b3,false⟩,⟨1,76,CU.agg (fPS (.slice A (pvs 5 R).length c) (.slice A' (pvs 5 T).length c') (fPV 47 p) (fPV 95 d)),b,true⟩] f64.ntmps [] a w) (fun i=>2 - i) 0 ⟨by omega,fun _=>rfl,hJw,hW0,s⟩ fun i a w ⟨hi,hi0,hJ,hWs,s⟩=> ?_
 have s0:=s
 have hup: ∀{w1 w2:Wp},BlS (inB ([⟨3,97,CU.agg (UF.eq (.agg #[.slice A' (pvs 5 T).length c', .slice A (pvs 5 R).length c, .slice A (pvs 5 R).length c, .slice A' (pvs 5 T).length c'])),b3,false⟩,⟨1,76,CU.agg (fPS (.slice A (pvs 5 R).length c) (.slice A' (pvs 5 T).length c') (fPV 47 p) (fPV 95 d)),b,true⟩]:List Bx)) w w1->Below w1.heap.size w1 w2->Okw C w_ w2:=fun h1 h2=>zGQ (zHY (hJok _ _ hJ) (s0.itr_to (N:=W.heap.size) h1 hN1 hWs) hwW) h2
 refine zVC ?_
 refine zB 1 ((30, .u (uB (decide ((i:Int)<2)))):: []) hmix s kI
  (oc (zT .i64 (i:Int) 2 (decide ((i:Int)<2)) iiz iiz rfl rfl)<|zD) fun a w3 s=> ?_
 refine zA rfl ?_
 refine zVC ?_
 refine StS.cond s (decide ((i:Int)<2)) iiz (fun e=> ?_) (fun e=> ?_)
 ·have hi2:i<2:=by have:=zVI e;omega
  obtain ⟨x,y,px,py,off,hc⟩: ∃(x y:Wq) (px py:List V2) (off:Nat),(i=0/\x= .slice A' (pvs 5 T).length c'/\y= .slice A (pvs 5 R).length c/\px=T/\py=R/\off=0)∨(i=1/\x= .slice A (pvs 5 R).length c/\y= .slice A' (pvs 5 T).length c'/\px=R/\py=T/\off=T.length):=by
   rcases (by omega:i=0∨i=1) with h|h
   ·exact ⟨_,_,_,_,_, .inl ⟨h,rfl,rfl,rfl,rfl,rfl⟩⟩
   ·exact ⟨_,_,_,_,_, .inr ⟨h,rfl,rfl,rfl,rfl,rfl⟩⟩
  have hix: ∀W,(Instr.index 97 (.agg #[.slice A' (pvs 5 T).length c', .slice A (pvs 5 R).length c, .slice A (pvs 5 R).length c, .slice A' (pvs 5 T).length c']) (.int .i64 (i:Int))).run prog W= .ok (.agg #[x,y]) W:=by
   rcases hc with ⟨h,rfl,rfl,_⟩|⟨h,rfl,rfl,_⟩<;>rw [h]
   ·exact ix0 _ _ _ _ _ _ _ _ _ _ _ _
   ·exact ix1 _ _ _ _ _ _ _ _ _ _ _ _
  have hx: ∀w,Okw C w_ w->(SF.row 6 (pvs 5 px)).p x w:=fun w h=>by rcases hc with ⟨_,rfl,rfl,rfl,rfl,rfl⟩|⟨_,rfl,rfl,rfl,rfl,rfl⟩;exact (hst w h).2.1;exact (hst w h).1
  have hy: ∀w,Okw C w_ w->(SF.row 6 (pvs 5 py)).p y w:=fun w h=>by rcases hc with ⟨_,rfl,rfl,rfl,rfl,rfl⟩|⟨_,rfl,rfl,rfl,rfl,rfl⟩;exact (hst w h).1;exact (hst w h).2.1
  have hnx:px.length<=1000000:=by rcases hc with ⟨_,rfl,rfl,rfl,rfl,rfl⟩|⟨_,rfl,rfl,rfl,rfl,rfl⟩;exact hnT;exact hnR
  have hny:py.length<=1000000:=by rcases hc with ⟨_,rfl,rfl,rfl,rfl,rfl⟩|⟨_,rfl,rfl,rfl,rfl,rfl⟩;exact hnR;exact hnT
  have hxc:=zBq (hx _ (hJok _ _ hJ))
  have hyc:=zBq (hy _ (hJok _ _ hJ))
  have hx1:=zEx (hx _ (hJok _ _ hJ))
  have hy1:=zEx (hy _ (hJok _ _ hJ))
  have hpx:=zFd dB (hx _ (hJok _ _ hJ))
  have hpy:=zFd dB (hy _ (hJok _ _ hJ))
  obtain ⟨hoff,hoff2,hpyE,hpxN,hlt,hevA,hevB⟩:=zJM p d hT0 (hc.imp (fun h=>⟨h.1,h.2.2.2.1,h.2.2.2.2.1,h.2.2.2.2.2⟩) (fun h=>⟨h.1,h.2.2.2.1,h.2.2.2.2.1,h.2.2.2.2.2⟩))
  refine zVF ?_
  refine zVC ?_
  refine zVG ?_
  refine zVC ?_
  refine zB 2 ((31, .u (uI (i:Int)))::(32, .u (UF.eq (.agg #[x,y]))):: []) hmix s kI
   (oc zC<|oc (zLf (.agg #[.slice A' (pvs 5 T).length c', .slice A (pvs 5 R).length c, .slice A (pvs 5 R).length c, .slice A' (pvs 5 T).length c']) (.int .i64 (i:Int)) (.agg #[x,y]) iiz iiz hix)<|zD) fun a w4 s=> ?_
  refine zW (CU.len 2) (cs:= [.slice none 0 0, .slice none 0 0]) kI rfl s kI (fun W=>rfl) rfl fun b5 a w s=> ?_
  refine y8 (uI (i:Int)) rfl s kI iiz fun a w s=> ?_
  refine zN (CU.agg (UF.eq (.agg #[x,y]))) ((UF.eq (.agg #[x,y])).tS) rfl s kI rfl rfl rfl iiz iiz (zDx (vs:= [x,y]) rfl (by simp [hx1,hy1]) (by simp [hxc.2,hyc.2])) fun a w s=> ?_
  refine zA rfl ?_
  refine zVC ?_
  obtain ⟨cs5,g5a,g5b,_⟩:=s.boxAt (c:=5) rfl
  have g5c:cs5= [x,y]:=by simpa using congrArg Array.toList (jG (show Value.agg cs5.toArray= .agg #[x,y] from g5b))
  subst g5c
  have hm0:=qL g5a
  have hm1:Mem _ b5 (0+1) [y]:=hm0.drop 1
  refine zB 6 ((33, .Z (UF.eq (.pointer (some ⟨b5,0+0,none⟩))))::(34, .Z (UF.eq x))::(35, .Z (UF.eq (.pointer (some ⟨b5,0+1,none⟩))))::(36, .Z (UF.eq y))::(6, .u (UF.eq x))::(7, .u (UF.eq y)):: []) hmix s kI
   (oc (zLg (b:=b5) 0 0 kI (fun _ _ h=>h.1) iiz)<|oc (zIU (b:=b5) (o:=0+0) x kI hm0 rfl iiz)<|oc (zLg (b:=b5) 1 1 kI (fun _ _ h=>h.1) iiz)<|oc (zIU (b:=b5) (o:=0+1) y kI hm1 rfl iiz)<|oc zG<|oc zG<|zD) fun a w5 s=> ?_
  refine zA rfl ?_
  refine zVC ?_
  refine zB 3 ((37, .u (UF.eq x))::(38, .u (uI ((pvs 5 px).length:Int)))::(39, .u (uI 0)):: []) hmix s kI
   (oc zC<|oc (yZ (z:=6) (Cs:=pvs 5 px) kI (fun v W hb h=>(by rw [show _=x from h];exact hx _ (hup s.gr hb))) (fun _=>rfl))<|oc zC<|zD) fun a w6 s=> ?_
  refine zA rfl ?_
  refine zVG ?_
  have hit1:=s0.itr_to (N:=W.heap.size) s.gr hN1 hWs
  have hJ1:J (off+0) w6:=by have h9:=hJs _ _ _ hJ hit1;rw [hoff] at h9;exact h9
  have hN2:=s.boxN hN1 hWs
  have hW1:=zVH hWs s.gr.size
  replace s:=(s.keepK [(0, .u (UF.eq (.func (.yield l_) #[] #[]))),(28, .u (UF.eq (.agg #[.slice A' (pvs 5 T).length c', .slice A (pvs 5 R).length c, .slice A (pvs 5 R).length c, .slice A' (pvs 5 T).length c']))),(29, .u (uI (i:Int))),(4, .u (uI (i:Int))),(6, .u (UF.eq x)),(7, .u (UF.eq y)),(37, .u (UF.eq x)),(38, .u (uI ((pvs 5 px).length:Int))),(39, .u (uI ((0:Nat):Int)))] (fmz ⟨mz9,fmz ⟨zEb,fmz ⟨zLr,fmz ⟨mz5,fmz ⟨mz3,fmz ⟨mz4,fmz ⟨.head _,fmz ⟨mz1,fmz ⟨mz2,fnz⟩⟩⟩⟩⟩⟩⟩⟩⟩)).self (qX kI)
  refine zCC (fun k a w=>k<=px.length/\(R.length=0->k=0)/\J (off+k) w/\W.heap.size<=w.heap.size/\StS (inB [⟨5,96,CU.agg (UF.eq (.agg #[x,y])),b5,false⟩,⟨3,97,CU.agg (UF.eq (.agg #[.slice A' (pvs 5 T).length c', .slice A (pvs 5 R).length c, .slice A (pvs 5 R).length c, .slice A' (pvs 5 T).length c'])),b3,false⟩,⟨1,76,CU.agg (fPS (.slice A (pvs 5 R).length c) (.slice A' (pvs 5 T).length c') (fPV 47 p) (fPV 95 d)),b,true⟩]) w [(0, .u (UF.eq (.func (.yield l_) #[] #[]))),(28, .u (UF.eq (.agg #[.slice A' (pvs 5 T).length c', .slice A (pvs 5 R).length c, .slice A (pvs 5 R).length c, .slice A' (pvs 5 T).length c']))),(29, .u (uI (i:Int))),(4, .u (uI (i:Int))),(6, .u (UF.eq x)),(7, .u (UF.eq y)),(37, .u (UF.eq x)),(38, .u (uI ((pvs 5 px).length:Int))),(39, .u (uI ((k:Nat):Int)))] [⟨5,96,CU.agg (UF.eq (.agg #[x,y])),b5,false⟩,⟨3,97,CU.agg (UF.eq (.agg #[.slice A' (pvs 5 T).length c', .slice A (pvs 5 R).length c, .slice A (pvs 5 R).length c, .slice A' (pvs 5 T).length c'])),b3,false⟩,⟨1,76,CU.agg (fPS (.slice A (pvs 5 R).length c) (.slice A' (pvs 5 T).length c') (fPV 47 p) (fPV 95 d)),b,true⟩] f64.ntmps [] a w) (fun k=>px.length - k) 0 ⟨zVM _,fun _=>rfl,hJ1,hW1,s⟩ fun k a w ⟨hk',hk0,hJ,hWs,s⟩=> ?_
  have s0:=s
  have hup: ∀{w1 w2:Wp},BlS (inB ([⟨5,96,CU.agg (UF.eq (.agg #[x,y])),b5,false⟩,⟨3,97,CU.agg (UF.eq (.agg #[.slice A' (pvs 5 T).length c', .slice A (pvs 5 R).length c, .slice A (pvs 5 R).length c, .slice A' (pvs 5 T).length c'])),b3,false⟩,⟨1,76,CU.agg (fPS (.slice A (pvs 5 R).length c) (.slice A' (pvs 5 T).length c') (fPV 47 p) (fPV 95 d)),b,true⟩]:List Bx)) w w1->Below w1.heap.size w1 w2->Okw C w_ w2:=fun h1 h2=>zGQ (zHY (hJok _ _ hJ) (s0.itr_to (N:=W.heap.size) h1 hN2 hWs) hwW) h2
  refine zVC ?_
  refine zB 1 ((40, .u (uB (decide ((k:Int)<((pvs 5 px).length:Int))))):: []) hmix s kI
   (oc (zT .i64 (k:Int) ((pvs 5 px).length:Int) (decide ((k:Int)<((pvs 5 px).length:Int))) iiz iiz rfl rfl)<|zD) fun a w7 s=> ?_
  refine zA rfl ?_
  refine zVC ?_
  refine StS.cond s (decide ((k:Int)<((pvs 5 px).length:Int))) iiz (fun e=> ?_) (fun e=> ?_)
  ·have hk:k<px.length:=by have:=zVI e;simp at this;omega
   have hkm:(k+1) % px.length<px.length:=Nat.mod_lt _ oP
   have hlz:(pvs 5 px).length=px.length:=by simp
   obtain ⟨v0,hv0⟩: ∃v0,v0=yL (nxt px k) (at_ px k):=⟨_,rfl⟩
   have hv1:QB v0.1 11/\QB v0.2 11:=by rw [hv0];have h9:=zHA hpx hk;exact ⟨h9.1.mono dB,h9.2.mono dB⟩
   refine zVF ?_
   refine zVC ?_
   refine zVG ?_
   refine zVC ?_
   refine zB 3 ((41, .u (uI (k:Int)))::(42, .Y (fPV 5 (at_ px k)))::(43, .u (fPV 5 (at_ px k))):: []) hmix s kI
    (oc zC<|oc (yX (z:=6) (Cs:=pvs 5 px) (i:=k) (C:=CU.agg (fPV 5 (at_ px k))) kI (jU hk) (fun v W hb h=>(by rw [show _=x from h];exact hx _ (hup s.gr hb))) iiz)<|oc (zJ (f:=fPV 5 (at_ px k)) 6 kI (hz:=z4 _ _))<|zD) fun a w8 s=> ?_
   refine zW (CU.len 6) (cs:=zP6) kI rfl s kI (fun W=>rfl) rfl fun b9 a w s=> ?_
   refine y8 (uI (k:Int)) rfl s kI iiz fun a w s=> ?_
   refine zN (CU.agg (fPV 5 (at_ px k))) ((fPV 5 (at_ px k)).tS) rfl s kI rfl rfl rfl iiz iiz qZ fun a w s=> ?_
   refine zA rfl ?_
   refine zVC ?_
   have so:=s.old;have sg:=s.gr
   refine zAg (fun i=> [].contains i) [⟨10,10,31, [.bool false, .slice none 0 0, .slice none 0 0, .bool false, .slice none 0 0, .slice none 0 0],wF w 31 (CU.len 6)⟩] 11 ((44, .Z (UF.eq x))::(45, .Z (uI (k:Int)))::(46, .Z (uI ((k+1:Nat):Int)))::(47, .Z (UF.eq x))::(48, .Z (uI ((pvs 5 px).length:Int)))::(49, .Z (uI (((k+1) % px.length:Nat):Int)))::(50, .Y (fPV 5 (nxt px k)))::(51, .Z (fPV 5 (nxt px k)))::(52, .Z (fPV 5 (at_ px k)))::(53, .u (fPV 11 v0))::(10, .s (wF w 31 (CU.len 6))):: []) hmix s (fmz ⟨⟨by show 10<11;decide,zEb,⟨_,_,_,rfl⟩,by kernel_rfl,jE (fun _=>rfl) rfl⟩,fnz⟩) kI
    (oc zC<|oc zC<|oc (qA .i64 (k:Int) 1 ((k+1:Nat):Int) iiz iiz (wrap64 _ _ oP oP))<|oc zC<|oc (yZ (z:=6) (Cs:=pvs 5 px) kI (fun v W hb h=>(by rw [show _=x from h];exact hx _ (hup s.gr hb))) (fun _=>rfl))<|oc (zFP .i64 ((k+1:Nat):Int) ((pvs 5 px).length:Int) (((k+1) % px.length:Nat):Int) iiz iiz (by simp only [zVQ];omega) (by simp only [zVQ];rw [Int.tmod_eq_emod_of_nonneg oP];rfl))<|oc (yX (z:=6) (Cs:=pvs 5 px) (i:=((k+1) % px.length)) (C:=CU.agg (fPV 5 (nxt px k))) kI (jU hkm) (fun v W hb h=>(by rw [show _=x from h];exact hx _ (hup s.gr hb))) iiz)<|oc (zJ (f:=fPV 5 (nxt px k)) 6 kI (hz:=z4 _ _))<|oc (zJ (f:=fPV 5 (at_ px k)) 6 kI (hz:=z4 _ _))<|oc (zL zE zN2 (fun u0 u1 W hb (h0:(fPV 5 (nxt px k)).p u0 W) (h1:(fPV 5 (at_ px k)).p u1 W)=>(zIp (m:=5) (p:=nxt px k) (q:=at_ px k) h0 h1 dB dB (hst _ (hup s.gr hb)).2.2).mono (wI (fun v W h=>zCH (p:=v0) hv1.1 hv1.2 (by rw [hv0];exact h)))))<|oc (zAz (cs:=zP6) kI (jE (fun _=>rfl) rfl))<|zD) fun Q' hQ a w9 s hr hd=> ?_
   obtain ⟨b10,hB10,e10,s⟩:=s.adoptA false 10 (hr (_,_) zEb) sg (fun y hy=> .inl (so y hy))
   refine zN (CU.agg (fPV 11 v0)) ((fPV 11 v0).tS) rfl s kI rfl rfl rfl iiz iiz qZ fun a w s=> ?_
   refine zA rfl (hQ _ _ ?_)
   refine zVC ?_
   refine zB 6 ((55, .Z (fPV 11 v0))::(56, .Z (UF.eq y))::(57, .Z (zAB (fRV 33 (jA v0 py py.length)) (uB (decide (0<py.length)))))::(54, .Z (zAB (fRV 33 (jA v0 py py.length)) (uB (decide (0<py.length)))))::(58, .u (fRV 33 (jA v0 py py.length)))::(59, .u (uB (decide (0<py.length)))):: []) hmix s kI
    (oc (zJ (f:=fPV 11 v0) 6 kI (hz:=z4 _ _))<|oc zC<|oc (zL zE zTs (fun u0 u1 W hb (h0:(fPV 11 v0).p u0 W) (h1:u1=y)=>by rw [show u1=y from h1];exact zN8 (q:=v0) h0 (hy _ (hup s.gr hb)) hny (hst _ (hup s.gr hb)).2.2))<|oc zC<|oc (zA3 (A:=(fRV 33 (jA v0 py py.length)).tS) (B:=(uB (decide (0<py.length))).tS) iiz)<|oc (zA2 (A:=(fRV 33 (jA v0 py py.length)).tS) (B:=(uB (decide (0<py.length))).tS) iiz)<|zD) fun a w10 s=> ?_
   refine zW (CU.len 3) (cs:=zR3) kI rfl s kI (fun W=>rfl) rfl fun b11 a w s=> ?_
   refine zN (CU.agg (fRV 33 (jA v0 py py.length))) ((fRV 33 (jA v0 py py.length)).tS) rfl s kI rfl rfl rfl iiz iiz zBg fun a w s=> ?_
   refine y8 (uB (decide (0<py.length))) rfl s kI iiz fun a w s=> ?_
   refine zA rfl ?_
   refine zVC ?_
   refine zVC ?_
   refine zB 2 ((60, .Z (uB (decide (0<py.length))))::(61, .u (uB (!(decide (0<py.length))))):: []) hmix s kI
    (oc zC<|oc (zAr (decide (0<py.length)) iiz (fun _=>rfl))<|zD) fun a w11 s=> ?_
   refine zA rfl ?_
   refine StS.cond s (!(decide (0<py.length))) iiz (fun e=> ?_) (fun e=> ?_)
   ·have hpy0:py.length=0:=by simp at e;simpa using e
    obtain ⟨hR0,hi1⟩:=hpyE hpy0
    have hk1:=hk0 hR0
    have hoff0:off=0:=by rw [<-hoff,hi1];rfl
    refine zVC ?_
    refine zB 2 ((62, .u (UF.eq (.func (.yield l_) #[] #[])))::(63, .u (fPN (((0:Int):Rat),((0:Int):Rat)))):: []) hmix s kI
     (oc zC<|oc (zBA zE zTr (fun W hb=>zOb))<|zD) fun a w12 s=> ?_
    have hJ1:J (off+k) w12:=hJs _ _ _ hJ (s0.itr_to (N:=W.heap.size) s.gr hN2 hWs)
    have hNy:=s.boxN hN2 hWs
    have hws:=zVH hWs s.gr.size
    have hev:at_ (evs T R p d) (off+k)=(((0:Int):Rat),((0:Int):Rat)):=by rw [zGb hR0,hoff0,hk1];rfl
    have hlt1:off+k<(evs T R p d).length:=by rw [zGb hR0,hoff0,hk1];decide
    have hcx: ∀z9,z9∈([⟨11,29,CU.agg (fRV 33 (jA v0 py py.length)),b11,false⟩,⟨10,31,CU.agg (fPV 11 v0),b10,false⟩,⟨9,31,CU.agg (fPV 5 (at_ px k)),b9,false⟩,⟨5,96,CU.agg (UF.eq (.agg #[x,y])),b5,false⟩,⟨3,97,CU.agg (UF.eq (.agg #[.slice A' (pvs 5 T).length c', .slice A (pvs 5 R).length c, .slice A (pvs 5 R).length c, .slice A' (pvs 5 T).length c'])),b3,false⟩,⟨1,76,CU.agg (fPS (.slice A (pvs 5 R).length c) (.slice A' (pvs 5 T).length c') (fPV 47 p) (fPV 95 d)),b,true⟩]:List Bx)-> ¬C z9.b:=fun x hx hc=>by
     cases hr9:x.r with
     |false=>have h8:=hNy x hx hr9;have h9:=hCl _ hc;omega
     |true=>
      have:x.b=b:=by simp only [zVE,zWc,or_false] at hx;rcases hx with rfl|rfl|rfl|rfl|rfl|rfl<;>first|rfl|cases hr9
      rw [this] at hc;exact hCb hc
    refine zFv rfl s iiz kI (qX kI) hcx (hround (off+k) _ _ hlt1 hJ1 ⟨by simp,fun j f hj=> ?_⟩) fun a w bv hr hbv s=> ?_
    ·match j,hj with
     |0,hj=>obtain rfl:=zWj hj;rw [zL4,hev];exact zCH (zKV dB) (zKV dB) (show (fPN (((0:Int):Rat),((0:Int):Rat))).p _ _ from s.at.sl 63)
    refine zA rfl ?_
    refine zVD ?_
    exact ⟨s.nd, .tuple #[],by simp [results,results64],⟨_,rfl⟩,hbv.elim (fun h=> .inl (by rw [zGb hR0];have h9:=h.2;rw [hoff0,hk1] at h9;exact h9)) (fun h=> .inr h.2)⟩
   ·have hR0:R.length≠0:=fun h=>by
     have h1:=hi0 h
     rcases hc with ⟨_,_,_,_,rfl,_⟩|⟨h2,_⟩
     ·simp [h] at e
     ·omega
    refine zVF ?_
    refine zVC ?_
    have so:=s.old;have sg:=s.gr
    refine zAg (fun i=> [].contains i) [⟨13,13,29, [.bool false, .slice none 0 0, .slice none 0 0],wF w11 29 (CU.len 3)⟩,⟨14,14,29, [.bool false, .slice none 0 0, .slice none 0 0],wF w11 29 (CU.len 3)⟩,⟨15,15,29, [.bool false, .slice none 0 0, .slice none 0 0],wF w11 29 (CU.len 3)⟩] 16 ((65, .Z (fRV 33 (jA v0 py py.length)))::(66, .Z (fPV 11 v0))::(67, .Z (fPV 5 (at_ px k)))::(68, .Z (fRV 33 (crz v0 (at_ px k))))::(69, .u (fRV 117 ((jA v0 py py.length) - crz v0 (at_ px k))))::(70, .Z (fPV 11 v0))::(71, .X (fPS (.slice A (pvs 5 R).length c) (.slice A' (pvs 5 T).length c') (fPV 47 p) (fPV 95 d)) 2)::(72, .Z (fPV 47 p))::(73, .u (fRV 117 (crz v0 p)))::(74, .Z (fPV 11 v0))::(75, .X (fPS (.slice A (pvs 5 R).length c) (.slice A' (pvs 5 T).length c') (fPV 47 p) (fPV 95 d)) 8)::(76, .Z (fPV 95 d))::(77, .u (fRV 213 (crz v0 d)))::(13, .s (wF w11 29 (CU.len 3)))::(14, .s (wF w11 29 (CU.len 3)))::(15, .s (wF w11 29 (CU.len 3))):: []) hmix s (fmz ⟨⟨by show 13<16;decide,zS3,⟨_,_,_,rfl⟩,by kernel_rfl,jE (fun _=>rfl) rfl⟩,fmz ⟨⟨by show 14<16;decide,zS2,⟨_,_,_,rfl⟩,by kernel_rfl,jE (fun _=>rfl) rfl⟩,fmz ⟨⟨by show 15<16;decide,zFh,⟨_,_,_,rfl⟩,by kernel_rfl,jE (fun _=>rfl) rfl⟩,fnz⟩⟩⟩) kI
     (oc (zJ (f:=fRV 33 (jA v0 py py.length)) 3 kI (hz:=yQ _ _))<|oc (zJ (f:=fPV 11 v0) 6 kI (hz:=z4 _ _))<|oc (zJ (f:=fPV 5 (at_ px k)) 6 kI (hz:=z4 _ _))<|oc (zL zE zL7 (fun u0 u1 W hb (h0:(fPV 11 v0).p u0 W) (h1:(fPV 5 (at_ px k)).p u1 W)=>(zC0 (m:=11) (p:=v0) (q:=(at_ px k)) h0 (jD (m':=11) dB h1) ⟨hv1.1.mono dB,hv1.2.mono dB⟩ ⟨((hpx _ (jO hk)).1.mono dB),((hpx _ (jO hk)).2.mono dB)⟩ dB dB (hst _ (hup s.gr hb)).2.2).mono (wI (fun v W h=>wG (q:=crz v0 (at_ px k)) h ((zAT hv1 (hpx _ (jO hk))).mono dB)))))<|oc (zL zE zL8 (fun u0 u1 W hb (h0:RVp 33 (jA v0 py py.length) u0 W) (h1:RVp 33 (crz v0 (at_ px k)) u1 W)=>(zE9 (m:=33) (q:=(jA v0 py py.length)) (q':=(crz v0 (at_ px k))) h0 h1 dB dB (hst _ (hup s.gr hb)).2.2).mono (wI (fun v W h=>wG h (((zEQ hv1 hpy dB _ lr).sub (zAT hv1 (hpx _ (jO hk)))).mono dB)))))<|oc (zJ (f:=fPV 11 v0) 6 kI (hz:=z4 _ _))<|oc (zR (C:=cg (fPS (.slice A (pvs 5 R).length c) (.slice A' (pvs 5 T).length c') (fPV 47 p) (fPV 95 d))) 2 kI)<|oc (yG (C:=cg (fPS (.slice A (pvs 5 R).length c) (.slice A' (pvs 5 T).length c') (fPV 47 p) (fPV 95 d))) (k:=2) 6 kI (h:=zUh))<|oc (zL zE zL7 (fun u0 u1 W hb (h0:(fPV 11 v0).p u0 W) (h1:(fPV 47 p).p u1 W)=>(zC0 (m:=47) (p:=v0) (q:=p) (jD (m':=47) dB h0) h1 ⟨hv1.1.mono dB,hv1.2.mono dB⟩ ⟨hpq.1,hpq.2⟩ dB dB (hst _ (hup s.gr hb)).2.2).mono (wI (fun v W h=>wG (q:=crz v0 p) h ((zAT hv1 hpq).mono dB)))))<|oc (zJ (f:=fPV 11 v0) 6 kI (hz:=z4 _ _))<|oc (zR (C:=cg (fPS (.slice A (pvs 5 R).length c) (.slice A' (pvs 5 T).length c') (fPV 47 p) (fPV 95 d))) 8 kI)<|oc (yG (C:=cg (fPS (.slice A (pvs 5 R).length c) (.slice A' (pvs 5 T).length c') (fPV 47 p) (fPV 95 d))) (k:=8) 6 kI (h:=zUg))<|oc (zL zE zL7 (fun u0 u1 W hb (h0:(fPV 11 v0).p u0 W) (h1:(fPV 95 d).p u1 W)=>(zC0 (m:=95) (p:=v0) (q:=d) (jD (m':=95) dB h0) h1 ⟨hv1.1.mono dB,hv1.2.mono dB⟩ ⟨hdq.1,hdq.2⟩ dB dB (hst _ (hup s.gr hb)).2.2).mono (wI (fun v W h=>wG (q:=crz v0 d) h ((zAT hv1 hdq).mono dB)))))<|oc (zAz (cs:=zR3) kI (jE (fun _=>rfl) rfl))<|oc (zAz (cs:=zR3) kI (jE (fun _=>rfl) rfl))<|oc (zAz (cs:=zR3) kI (jE (fun _=>rfl) rfl))<|zD) fun Q' hQ a w13 s hr hd=> ?_
    obtain ⟨b13,hB13,e13,s⟩:=s.adoptA false 13 (hr (_,_) zS3) sg (fun y hy=> .inl (so y hy))
    obtain ⟨b14,hB14,e14,s⟩:=s.adoptA false 14 (hr (_,_) zS2) sg (fun y hy=>by rcases zVE.1 hy with rfl|hy;exact .inr (.inr fun b hb=>hd _ _ (.head _) mz1 (by show 13≠14;decide) _ _ e13 hb);exact .inl (so y hy))
    obtain ⟨b15,hB15,e15,s⟩:=s.adoptA false 15 (hr (_,_) zFh) sg (fun y hy=>by rcases zVE.1 hy with rfl|hy;exact .inr (.inr fun b hb=>hd _ _ mz1 mz2 (by show 14≠15;decide) _ _ e14 hb);rcases zVE.1 hy with rfl|hy;exact .inr (.inr fun b hb=>hd _ _ (.head _) mz2 (by show 13≠15;decide) _ _ e13 hb);exact .inl (so y hy))
    refine zN (CU.agg (fRV 117 ((jA v0 py py.length) - crz v0 (at_ px k)))) ((fRV 117 ((jA v0 py py.length) - crz v0 (at_ px k))).tS) rfl s kI rfl rfl rfl iiz iiz zBg fun a w s=> ?_
    refine zN (CU.agg (fRV 117 (crz v0 p))) ((fRV 117 (crz v0 p)).tS) rfl s kI rfl rfl rfl iiz iiz zBg fun a w s=> ?_
    refine zN (CU.agg (fRV 213 (crz v0 d))) ((fRV 213 (crz v0 d)).tS) rfl s kI rfl rfl rfl iiz iiz zBg fun a w s=> ?_
    refine zA rfl (hQ _ _ ?_)
    refine zVC ?_
    have so:=s.old;have sg:=s.gr
    refine zAg (fun i=> [].contains i) [⟨6,16,79, [.bool false, .slice none 0 0, .slice none 0 0, .bool false, .slice none 0 0, .slice none 0 0],wF w 79 (CU.len 6)⟩] 7 ((78, .Z (fRV 117 ((jA v0 py py.length) - crz v0 (at_ px k))))::(79, .Z (fRV 117 (crz v0 p)))::(80, .s (fQS 117 [((jA v0 py py.length) - crz v0 (at_ px k)),(crz v0 p)]))::(81, .Z (fRV 213 (((jA v0 py py.length) - crz v0 (at_ px k))+crz v0 p)))::(82, .Z (fRV 213 (crz v0 d)))::(83, .u (fPV 213 (((((jA v0 py py.length) - crz v0 (at_ px k))+crz v0 p),(crz v0 d)):V2)))::(16, .s (wF w 79 (CU.len 6))):: []) hmix s (fmz ⟨⟨by show 6<7;decide,mz6,⟨_,_,_,rfl⟩,by kernel_rfl,jE (fun _=>rfl) rfl⟩,fnz⟩) kI
     (oc (zJ (f:=fRV 117 ((jA v0 py py.length) - crz v0 (at_ px k))) 3 kI (hz:=yQ _ _))<|oc (zJ (f:=fRV 117 (crz v0 p)) 3 kI (hz:=yQ _ _))<|oc (yM (fun u v W (hu:RVp 117 ((jA v0 py py.length) - crz v0 (at_ px k)) u W) (hv:RVp 117 (crz v0 p) v W)=>zCO hu hv))<|oc (zH zE zN1 (fun u0 W hb (h0:(fQS 117 [((jA v0 py py.length) - crz v0 (at_ px k)),(crz v0 p)]).p u0 W)=>(zEB (m:=117) (p:=((jA v0 py py.length) - crz v0 (at_ px k))) (q:=crz v0 p) h0 (((zEQ hv1 hpy dB _ lr).sub (zAT hv1 (hpx _ (jO hk)))).mono dB) ((zAT hv1 hpq).mono dB) dB (hst _ (hup s.gr hb)).2.2).mono (wI (fun v W h=>wG h ((((zEQ hv1 hpy dB _ lr).sub (zAT hv1 (hpx _ (jO hk)))).add (zAT hv1 hpq)).mono dB)))))<|oc (zJ (f:=fRV 213 (crz v0 d)) 3 kI (hz:=yQ _ _))<|oc (yR (fun u v W (hu:RVp 213 (((jA v0 py py.length) - crz v0 (at_ px k))+crz v0 p) u W) (hv:RVp 213 (crz v0 d) v W)=>zTX (zFH _ _) (zFH _ _) hu hv))<|oc (zAz (cs:=zP6) kI (jE (fun _=>rfl) rfl))<|zD) fun Q' hQ a w14 s hr hd=> ?_
    obtain ⟨b16,hB16,e16,s⟩:=s.adoptA false 16 (hr (_,_) mz6) sg (fun y hy=> .inl (so y hy))
    refine zN (CU.agg (fPV 213 (((((jA v0 py py.length) - crz v0 (at_ px k))+crz v0 p),(crz v0 d)):V2))) ((fPV 213 (((((jA v0 py py.length) - crz v0 (at_ px k))+crz v0 p),(crz v0 d)):V2)).tS) rfl s kI rfl rfl rfl iiz iiz qZ fun a w s=> ?_
    refine zA rfl (hQ _ _ ?_)
    refine zVC ?_
    refine zVC ?_
    refine zB 2 ((84, .Z (uI (i:Int)))::(85, .u (uB (decide (i=1)))):: []) hmix s kI
     (oc zC<|oc (zT .i64 (i:Int) 1 (decide (i=1)) iiz iiz (by rw [Bool.eq_iff_iff,zVY,decide_eq_true_iff];omega) rfl)<|zD) fun a w15 s=> ?_
    refine zA rfl ?_
    refine StS.cond s (decide (i=1)) iiz (fun e=> ?_) (fun e=> ?_)
    ·have hev:=hevB k v0 hv0 hk hR0 (zVI e)
     refine yT [] 6 ((86, .Z (fRV 117 ((jA v0 py py.length) - crz v0 (at_ px k))))::(87, .Z (fRV 117 (crz v0 p)))::(88, .Z (fRV 213 (((jA v0 py py.length) - crz v0 (at_ px k)) - crz v0 p)))::(89, .Z (fRV 213 (crz v0 d)))::(90, .Z (fRV 213 (-(crz v0 d))))::(91, .u (fPV 213 (((((jA v0 py py.length) - crz v0 (at_ px k)) - crz v0 p),(-(crz v0 d))):V2))):: []) hmix s kI
      (oc (zJ (f:=fRV 117 ((jA v0 py py.length) - crz v0 (at_ px k))) 3 kI (hz:=yQ _ _))<|oc (zJ (f:=fRV 117 (crz v0 p)) 3 kI (hz:=yQ _ _))<|oc (zL zE zL8 (fun u0 u1 W hb (h0:RVp 117 ((jA v0 py py.length) - crz v0 (at_ px k)) u0 W) (h1:RVp 117 (crz v0 p) u1 W)=>(zE9 (m:=117) (q:=((jA v0 py py.length) - crz v0 (at_ px k))) (q':=(crz v0 p)) h0 h1 dB dB (hst _ (hup s.gr hb)).2.2).mono (wI (fun v W h=>wG h ((((zEQ hv1 hpy dB _ lr).sub (zAT hv1 (hpx _ (jO hk)))).sub (zAT hv1 hpq)).mono dB)))))<|oc (zJ (f:=fRV 213 (crz v0 d)) 3 kI (hz:=yQ _ _))<|oc (zH zE zQC (fun u0 W hb (h0:RVp 213 (crz v0 d) u0 W)=>(zKM (m:=213) (q:=crz v0 d) h0 dB dB (hst _ (hup s.gr hb)).2.2).mono (wI (fun v W h=>wG h ((zAT hv1 hdq).neg.mono dB)))))<|oc (yR (fun u v W (hu:RVp 213 (((jA v0 py py.length) - crz v0 (at_ px k)) - crz v0 p) u W) (hv:RVp 213 (-(crz v0 d)) v W)=>zTX (zFH _ _) (zFH _ _) hu hv))<|zD) fun Q' hQ a w16 s=> ?_
     refine zN (CU.agg (fPV 213 (((((jA v0 py py.length) - crz v0 (at_ px k)) - crz v0 p),(-(crz v0 d))):V2))) ((fPV 213 (((((jA v0 py py.length) - crz v0 (at_ px k)) - crz v0 p),(-(crz v0 d))):V2)).tS) rfl s kI rfl rfl rfl (z4 _ _) iiz qZ fun a w s=> ?_
     refine zA rfl (hQ _ _ ?_)
     refine zVC ?_
     refine zB 2 ((92, .u (UF.eq (.func (.yield l_) #[] #[])))::(93, .u (fPV 213 (((((jA v0 py py.length) - crz v0 (at_ px k)) - crz v0 p),(-(crz v0 d))):V2))):: []) hmix s kI
      (oc zC<|oc (zJ (f:=fPV 213 (((((jA v0 py py.length) - crz v0 (at_ px k)) - crz v0 p),(-(crz v0 d))):V2)) 6 kI (hz:=z4 _ _))<|zD) fun a w17 s=> ?_
     have hJ1:J (off+k) w17:=hJs _ _ _ hJ (s0.itr_to (N:=W.heap.size) s.gr hN2 hWs)
     have hNy:=s.boxN hN2 hWs
     have hws:=zVH hWs s.gr.size
     have hlt1:=hlt k hk hR0
     have hcx: ∀z9,z9∈([⟨16,79,CU.agg (fPV 213 (((((jA v0 py py.length) - crz v0 (at_ px k)) - crz v0 p),(-(crz v0 d))):V2)),b16,false⟩,⟨15,29,CU.agg (fRV 213 (crz v0 d)),b15,false⟩,⟨14,29,CU.agg (fRV 117 (crz v0 p)),b14,false⟩,⟨13,29,CU.agg (fRV 117 ((jA v0 py py.length) - crz v0 (at_ px k))),b13,false⟩,⟨11,29,CU.agg (fRV 33 (jA v0 py py.length)),b11,false⟩,⟨10,31,CU.agg (fPV 11 v0),b10,false⟩,⟨9,31,CU.agg (fPV 5 (at_ px k)),b9,false⟩,⟨5,96,CU.agg (UF.eq (.agg #[x,y])),b5,false⟩,⟨3,97,CU.agg (UF.eq (.agg #[.slice A' (pvs 5 T).length c', .slice A (pvs 5 R).length c, .slice A (pvs 5 R).length c, .slice A' (pvs 5 T).length c'])),b3,false⟩,⟨1,76,CU.agg (fPS (.slice A (pvs 5 R).length c) (.slice A' (pvs 5 T).length c') (fPV 47 p) (fPV 95 d)),b,true⟩]:List Bx)-> ¬C z9.b:=fun x hx hc=>by
      cases hr9:x.r with
      |false=>have h8:=hNy x hx hr9;have h9:=hCl _ hc;omega
      |true=>
       have:x.b=b:=by simp only [zVE,zWc,or_false] at hx;rcases hx with rfl|rfl|rfl|rfl|rfl|rfl|rfl|rfl|rfl|rfl<;>first|rfl|cases hr9
       rw [this] at hc;exact hCb hc
     refine zFv rfl s iiz kI (qX kI) hcx (hround (off+k) _ _ hlt1 hJ1 ⟨by simp,fun j f hj=> ?_⟩) fun a w bv hr hbv s=> ?_
     ·match j,hj with
      |0,hj=>obtain rfl:=zWj hj;rw [zL4,hev];exact s.at.sl 93
     have sy:=s
     have hsz2:=hr.size
     refine zCt (uB (!bv)) rfl s kI (zAr bv iiz (fun _=>rfl)) kI fun a w s=> ?_
     refine zA rfl ?_
     have hitr:=sy.itr_to (N:=W.heap.size) s.gr hNy oP
     refine StS.cond s (!bv) iiz (fun e=> ?_) (fun e=> ?_)
     ·have hz:=hZs _ _ (by rcases hbv with ⟨e2,_⟩|⟨_,hz⟩;rw [e2] at e;cases e;exact hz) hitr
      refine zVD ?_
      exact ⟨s.nd, .tuple #[],by simp [results,results64],⟨_,rfl⟩, .inr hz⟩
     ·have hJ2:=hJs _ _ _ (by rcases hbv with ⟨_,hj⟩|⟨e2,_⟩;exact hj;rw [e2] at e;cases e) hitr
      have hW3:=zVH hws (zVH hsz2 s.gr.size)
      have sx:=s
      replace s:=s.self (qX kI)
      refine zVF ?_
      refine yF 1 ((96, .u (uI ((k+1:Nat):Int))):: []) s kI
       (oc (qA .i64 (k:Int) 1 ((k+1:Nat):Int) iiz iiz (wrap64 _ _ oP oP))<|zD) fun a w18 s=> ?_
      replace s:=s.drop [39]
      refine zCt (uI ((k+1:Nat):Int)) rfl s kI zC kI fun a w s=> ?_
      refine zA rfl ?_
      have hit2:=sx.itr_to (N:=W.heap.size) s.gr hNy hW3
      have hsz4:=zVH hW3 s.gr.size
      exact ⟨k+1,by show px.length - (k+1)<px.length - k;omega,by omega,fun h=>absurd h hR0,hJs _ _ _ hJ2 hit2,hsz4,((s.keepK [(0, .u (UF.eq (.func (.yield l_) #[] #[]))),(28, .u (UF.eq (.agg #[.slice A' (pvs 5 T).length c', .slice A (pvs 5 R).length c, .slice A (pvs 5 R).length c, .slice A' (pvs 5 T).length c']))),(29, .u (uI (i:Int))),(4, .u (uI (i:Int))),(6, .u (UF.eq x)),(7, .u (UF.eq y)),(37, .u (UF.eq x)),(38, .u (uI ((pvs 5 px).length:Int))),(39, .u (uI (((k+1):Nat):Int)))] (fmz ⟨.tail _ (.tail _ (.tail _ (.tail _ (.tail _ (.tail _ zFh))))),fmz ⟨.tail _ (.tail _ (.tail _ (.tail _ (.tail _ (.tail _ (.tail _ zFh)))))),fmz ⟨.tail _ (.tail _ (.tail _ (.tail _ (.tail _ (.tail _ (.tail _ (.tail _ zFh))))))),fmz ⟨.tail _ (.tail _ (.tail _ (.tail _ (.tail _ (.tail _ (.tail _ (.tail _ (.tail _ zFh)))))))),fmz ⟨.tail _ (.tail _ (.tail _ (.tail _ (.tail _ (.tail _ (.tail _ (.tail _ (.tail _ (.tail _ zFh))))))))),fmz ⟨.tail _ (.tail _ (.tail _ (.tail _ (.tail _ (.tail _ (.tail _ (.tail _ (.tail _ (.tail _ (.tail _ zFh)))))))))),fmz ⟨.tail _ (.tail _ (.tail _ (.tail _ (.tail _ (.tail _ (.tail _ (.tail _ (.tail _ (.tail _ (.tail _ (.tail _ zFh))))))))))),fmz ⟨.tail _ (.tail _ (.tail _ (.tail _ (.tail _ (.tail _ (.tail _ (.tail _ (.tail _ (.tail _ (.tail _ (.tail _ (.tail _ zFh)))))))))))),fmz ⟨.head _,fnz⟩⟩⟩⟩⟩⟩⟩⟩⟩)).popB.popB.popB.popB.popB.popB.popB).self (qX kI)⟩
    ·have hev:=hevA k v0 hv0 hk hR0 (zVJ e)
     refine zVF ?_
     refine zVC ?_
     refine zB 2 ((92, .u (UF.eq (.func (.yield l_) #[] #[])))::(93, .u (fPV 213 (((((jA v0 py py.length) - crz v0 (at_ px k))+crz v0 p),(crz v0 d)):V2))):: []) hmix s kI
      (oc zC<|oc (zJ (f:=fPV 213 (((((jA v0 py py.length) - crz v0 (at_ px k))+crz v0 p),(crz v0 d)):V2)) 6 kI (hz:=z4 _ _))<|zD) fun a w19 s=> ?_
     have hJ1:J (off+k) w19:=hJs _ _ _ hJ (s0.itr_to (N:=W.heap.size) s.gr hN2 hWs)
     have hNy:=s.boxN hN2 hWs
     have hws:=zVH hWs s.gr.size
     have hlt1:=hlt k hk hR0
     have hcx: ∀z9,z9∈([⟨16,79,CU.agg (fPV 213 (((((jA v0 py py.length) - crz v0 (at_ px k))+crz v0 p),(crz v0 d)):V2)),b16,false⟩,⟨15,29,CU.agg (fRV 213 (crz v0 d)),b15,false⟩,⟨14,29,CU.agg (fRV 117 (crz v0 p)),b14,false⟩,⟨13,29,CU.agg (fRV 117 ((jA v0 py py.length) - crz v0 (at_ px k))),b13,false⟩,⟨11,29,CU.agg (fRV 33 (jA v0 py py.length)),b11,false⟩,⟨10,31,CU.agg (fPV 11 v0),b10,false⟩,⟨9,31,CU.agg (fPV 5 (at_ px k)),b9,false⟩,⟨5,96,CU.agg (UF.eq (.agg #[x,y])),b5,false⟩,⟨3,97,CU.agg (UF.eq (.agg #[.slice A' (pvs 5 T).length c', .slice A (pvs 5 R).length c, .slice A (pvs 5 R).length c, .slice A' (pvs 5 T).length c'])),b3,false⟩,⟨1,76,CU.agg (fPS (.slice A (pvs 5 R).length c) (.slice A' (pvs 5 T).length c') (fPV 47 p) (fPV 95 d)),b,true⟩]:List Bx)-> ¬C z9.b:=fun x hx hc=>by
      cases hr9:x.r with
      |false=>have h8:=hNy x hx hr9;have h9:=hCl _ hc;omega
      |true=>
       have:x.b=b:=by simp only [zVE,zWc,or_false] at hx;rcases hx with rfl|rfl|rfl|rfl|rfl|rfl|rfl|rfl|rfl|rfl<;>first|rfl|cases hr9
       rw [this] at hc;exact hCb hc
     refine zFv rfl s iiz kI (qX kI) hcx (hround (off+k) _ _ hlt1 hJ1 ⟨by simp,fun j f hj=> ?_⟩) fun a w bv hr hbv s=> ?_
     ·match j,hj with
      |0,hj=>obtain rfl:=zWj hj;rw [zL4,hev];exact s.at.sl 93
     have sy:=s
     have hsz2:=hr.size
     refine zCt (uB (!bv)) rfl s kI (zAr bv iiz (fun _=>rfl)) kI fun a w s=> ?_
     refine zA rfl ?_
     have hitr:=sy.itr_to (N:=W.heap.size) s.gr hNy oP
     refine StS.cond s (!bv) iiz (fun e=> ?_) (fun e=> ?_)
     ·have hz:=hZs _ _ (by rcases hbv with ⟨e2,_⟩|⟨_,hz⟩;rw [e2] at e;cases e;exact hz) hitr
      refine zVD ?_
      exact ⟨s.nd, .tuple #[],by simp [results,results64],⟨_,rfl⟩, .inr hz⟩
     ·have hJ2:=hJs _ _ _ (by rcases hbv with ⟨_,hj⟩|⟨e2,_⟩;exact hj;rw [e2] at e;cases e) hitr
      have hW3:=zVH hws (zVH hsz2 s.gr.size)
      have sx:=s
      replace s:=s.self (qX kI)
      refine zVF ?_
      refine yF 1 ((96, .u (uI ((k+1:Nat):Int))):: []) s kI
       (oc (qA .i64 (k:Int) 1 ((k+1:Nat):Int) iiz iiz (wrap64 _ _ oP oP))<|zD) fun a w20 s=> ?_
      replace s:=s.drop [39]
      refine zCt (uI ((k+1:Nat):Int)) rfl s kI zC kI fun a w s=> ?_
      refine zA rfl ?_
      have hit2:=sx.itr_to (N:=W.heap.size) s.gr hNy hW3
      have hsz4:=zVH hW3 s.gr.size
      exact ⟨k+1,by show px.length - (k+1)<px.length - k;omega,by omega,fun h=>absurd h hR0,hJs _ _ _ hJ2 hit2,hsz4,((s.keepK [(0, .u (UF.eq (.func (.yield l_) #[] #[]))),(28, .u (UF.eq (.agg #[.slice A' (pvs 5 T).length c', .slice A (pvs 5 R).length c, .slice A (pvs 5 R).length c, .slice A' (pvs 5 T).length c']))),(29, .u (uI (i:Int))),(4, .u (uI (i:Int))),(6, .u (UF.eq x)),(7, .u (UF.eq y)),(37, .u (UF.eq x)),(38, .u (uI ((pvs 5 px).length:Int))),(39, .u (uI (((k+1):Nat):Int)))] (fmz ⟨.tail _ (.tail _ (.tail _ (.tail _ (.tail _ zFh)))),fmz ⟨.tail _ (.tail _ (.tail _ (.tail _ (.tail _ (.tail _ zFh))))),fmz ⟨.tail _ (.tail _ (.tail _ (.tail _ (.tail _ (.tail _ (.tail _ zFh)))))),fmz ⟨.tail _ (.tail _ (.tail _ (.tail _ (.tail _ (.tail _ (.tail _ (.tail _ zFh))))))),fmz ⟨.tail _ (.tail _ (.tail _ (.tail _ (.tail _ (.tail _ (.tail _ (.tail _ (.tail _ zFh)))))))),fmz ⟨.tail _ (.tail _ (.tail _ (.tail _ (.tail _ (.tail _ (.tail _ (.tail _ (.tail _ (.tail _ zFh))))))))),fmz ⟨.tail _ (.tail _ (.tail _ (.tail _ (.tail _ (.tail _ (.tail _ (.tail _ (.tail _ (.tail _ (.tail _ zFh)))))))))),fmz ⟨.tail _ (.tail _ (.tail _ (.tail _ (.tail _ (.tail _ (.tail _ (.tail _ (.tail _ (.tail _ (.tail _ (.tail _ zFh))))))))))),fmz ⟨.head _,fnz⟩⟩⟩⟩⟩⟩⟩⟩⟩)).popB.popB.popB.popB.popB.popB.popB).self (qX kI)⟩
  ·have hk:k=px.length:=by have h7:=zVJ e;simp at h7;omega
   have hR0:R.length≠0:=fun h=>by have:=hk0 h;have:=hpxN h (hi0 h);omega
   refine zVL ?_
   refine yF 1 ((97, .u (uI ((i+1:Nat):Int))):: []) s kI
    (oc (qA .i64 (i:Int) 1 ((i+1:Nat):Int) iiz iiz (wrap64 _ _ oP oP))<|zD) fun a w21 s=> ?_
   replace s:=s.drop [29]
   refine zCt (uI ((i+1:Nat):Int)) rfl s kI zC kI fun a w s=> ?_
   refine zA rfl ?_
   have hit2:=s0.itr_to (N:=W.heap.size) s.gr hN2 hWs
   have hsz4:=zVH hWs s.gr.size
   exact ⟨i+1,by show 2 - (i+1)<2 - i;omega,by omega,fun h=>absurd h hR0,by have h9:=hJs _ _ _ hJ hit2;rw [hk, <-hoff2] at h9;exact h9,hsz4,((s.keepK [(0, .u (UF.eq (.func (.yield l_) #[] #[]))),(28, .u (UF.eq (.agg #[.slice A' (pvs 5 T).length c', .slice A (pvs 5 R).length c, .slice A (pvs 5 R).length c, .slice A' (pvs 5 T).length c']))),(29, .u (uI (((i+1):Nat):Int)))] (fmz ⟨mz3,fmz ⟨mz4,fmz ⟨.head _,fnz⟩⟩⟩)).popB).self (qX kI)⟩
 ·have hi2:i=2:=by have h7:=zVJ e;omega
  have hR0:R.length≠0:=fun h=>by have:=hi0 h;omega
  refine zVL ?_
  exact ⟨s.nd, .tuple #[],by simp [results,results64],⟨_,rfl⟩, .inl (by rw [zIe hR0];have h9:=hJs _ _ _ hJ (s0.itr_to (N:=W.heap.size) s.gr hN1 hWs);rw [hi2] at h9;exact h9)⟩
def zEe (R:List V2) (Ts:List V6) (a b:V2):Bool:= !(Ts.any fun t=>(zAX (tl t) R a (yL b a)).2)
def zBV (R:List V2) (Ts:List V6) (p:V2):Bool:= !(Ts.any fun t=> !(qD (yN R p) (tl t)))
theorem zKd (t:V6):0<(tl t).length:=by show 0<3;decide
theorem zDl {R:List V2} {Ts:List V6} {a b:V2}:zEe R Ts a b=true↔ ∀s,(0<=s/\s<=1)->zBV R Ts (lpt a (yL b a) s)=true:=by
 unfold zEe zBV
 simp only [zWk,zVT]
 constructor
 ·intro h s hs t ht
  have h1:(zAX (tl t) R a (yL b a)).2=false:=by have:=h t ht;simpa using this
  rw [(zJj (zKd t) a _).1 h1 s hs]
  decide
 ·intro h t ht
  rw [(zJj (zKd t) a _).2 fun s hs=>by have:=h s hs t ht;simpa using this]
  decide
theorem zF8 {R:List V2} {Ts:List V6} {p:V2}:zBV R Ts p=true↔ ∀t,t∈Ts->qD (yN R p) (tl t)=true:=by
 unfold zBV
 simp only [zWk,zVT]
 exact ⟨fun h t ht=>by have:=h t ht;simpa using this,fun h t ht=>by rw [h t ht];decide⟩
theorem zGg {a b:Bool} (h:a=true↔b=true):a=b:=by cases a<;>cases b<;>simp_all
theorem zLX (R:List V2) (Ts:List V6) (p z:V2):zBV R (Ts.map (zIZ z)) (zBb p z)=zBV R Ts p:=by unfold zBV;rw [zQP]
theorem zNQ (R:List V2) (Ts:List V6) (a b z:V2):zEe R (Ts.map (zIZ z)) (zBb a z) (zBb b z)=zEe R Ts a b:=by
 have e: ∀s,lpt (zBb a z) (yL (zBb b z) (zBb a z)) s=zBb (lpt a (yL b a) s) z:=fun s=>by
  unfold lpt yL zBb
  exact Prod.ext (by simp only;grind) (by simp only;grind)
 refine zGg ?_
 rw [zDl,zDl]
 simp only [e,zLX]
theorem zNX {R:List V2} (Ts:List V6) (p:V2) {k:Nat} (hk:k<R.length):zBV (zE6 R k) Ts p=zBV R Ts p:=by
 refine zGg ?_
 rw [zF8,zF8]
 have e:yN (zE6 R k) p=zE6 (yN R p) k:=by unfold yN zE6;rw [zWg,List.map_drop,List.map_take]
 simp only [e,zKY _ _ (show k<(yN R p).length by rw [zAM];exact hk)]
theorem zQk {R:List V2} (Ts:List V6) (a b:V2) {k:Nat} (hk:k<R.length):zEe (zE6 R k) Ts a b=zEe R Ts a b:=by
 refine zGg ?_
 rw [zDl,zDl]
 simp only [zNX _ _ hk]
theorem zG4 {R:List V2} {Ts:List V6} {a b:V2} (k:Nat) (h:zEe R Ts a b=true):zEe R (Ts.drop k) a b=true:=by
 rw [zDl] at h ⊢
 intro s hs
 have:=h s hs
 rw [zF8] at this ⊢
 exact fun t ht=>this t (List.mem_of_mem_drop ht)
theorem zI2 (R:List V2) (a b:V2):zEe R [] a b=true:=rfl
def zBo (x y:Rat):Rat:=if decide (qsg x y<0)=true then y - x else x - y
def zJJ (p q:V2):Rat:=zBo p.1 q.1+zBo p.2 q.2
end Go.Proofs.Wd

namespace Go.Proofs.Wd
open Tryz
set_option maxRecDepth 100000
set_option maxHeartbeats 1000000
open Go.RowKit Lb
section
variable {S:Nat->Prop} {F:Fence} {m:Nat} {P:Wu} {Q:Exit->Act->Wp->Prop} {w0 w1:Wp} {K:List (Nat×KF)} {B:List Bx} {n:Nat} {ds:List Deferred} {a:Act} {w:Wp} {ops:Array Oper} {D:List Nat} {CW:Wp->Prop}
def zUl (ts:List Nat) (B:List Bx):List Bx:=B.map fun x=>⟨x.t,x.e,x.c,x.b,x.r||ts.contains x.t⟩
theorem yH.freezeT (ts:List Nat): ∀(B:List Bx),yH S w0 a w B->yH S w0 a w (zUl ts B)
 | [],_=>trivial
 |x::B,⟨⟨cs,h1,h2,h3,h4,h5,h6⟩,h7⟩=>⟨⟨cs,h1,h2.imp (fun e=>by show (x.r||_)=true;rw [e];rfl) id,h3,h4,h5,fun y hy=>by
  obtain ⟨z,hz,rfl⟩:=zVN.1 hy
  refine (h6 z hz).imp id fun ⟨e1,e2⟩=>⟨?_, ?_⟩
  ·show (x.r||_)=true;rw [e1];rfl
  ·show (z.r||_)=true;rw [e2];rfl⟩,yH.freezeT ts B h7⟩
theorem StS.freezeT (ts:List Nat) (h:StS S w0 K B n ds a w):StS S w0 K (zUl ts B) n ds a w:=⟨h.gr,h.size,h.nd,h.sl,yH.freezeT ts B h.bx,h.mks,h.so⟩
theorem vG: ∀{B:List Bx},yH S w0 a w B-> ∀x y,x∈B->y∈B->x.r=false->y.r=true->y.b≠x.b
 | [],_,_,_,hx,_,_,_=>by cases hx
 | z::B,⟨⟨cs,_,_,_,_,_,h6⟩,h7⟩,x,y,hx,hy,e1,e2=>by
  rcases zVE.1 hx with rfl|hx'<;>rcases zVE.1 hy with rfl|hy'
  ·rw [e1] at e2;cases e2
  ·rcases h6 y hy' with h|h
   ·exact h
   ·rw [h.1] at e1;cases e1
  ·rcases h6 x hx' with h|h
   ·exact fun e=>h e.symm
   ·rw [h.2] at e1;cases e1
  ·exact vG h7 x y hx' hy' e1 e2
theorem StS.notIn (h:StS S w0 K B n ds a w) {c:Nat} {z:Bx} (hB:zCY B c=some z) (hr:z.r=true): ¬inB B z.b:=fun ⟨x,hx,e,hx2⟩=>vG h.bx x z hx (qT hB).1 hx2 hr e.symm
theorem yH.two: ∀{B:List Bx},yH S w0 a w B-> ∀x y,x∈B->y∈B->x.t≠y.t->x.r=false->y.b≠x.b
 | [],_,_,_,hx,_,_,_=>by cases hx
 | z::B,⟨⟨cs,_,_,_,_,_,h6⟩,h7⟩,x,y,hx,hy,ht,e1=>by
  rcases zVE.1 hx with rfl|hx'<;>rcases zVE.1 hy with rfl|hy'
  ·exact absurd rfl ht
  ·rcases h6 y hy' with h|h
   ·exact h
   ·rw [h.1] at e1;cases e1
  ·rcases h6 x hx' with h|h
   ·exact fun e=>h e.symm
   ·rw [h.2] at e1;cases e1
  ·exact yH.two h7 x y hx' hy' ht e1
theorem StS.twoB (h:StS S w0 K B n ds a w) (c c':Nat) {y z:Bx} (hc:zCY B c=some y) (hc':zCY B c'=some z) (hne:Nat.beq y.t z.t=false) (hr:y.r=false):z.b≠y.b:=yH.two h.bx y z (qT hc).1 (qT hc').1 (Nat.ne_of_beq_eq_false hne) hr
theorem zPG {z b o k c:Nat} {Cs:List CU} {W W':Wp} (h:(SF.row z Cs).p (.slice (some ⟨b,o,none⟩) k c) W) (hb:W'.heap[b]?=W.heap[b]?) (hk:jH W W'):(SF.row z Cs).p (.slice (some ⟨b,o,none⟩) k c) W':=by
 obtain ⟨A,c,e,h2,h3,h4,h5⟩:=h
 refine ⟨A,c,e,h2,h3,h4,fun i C hi=> ?_⟩
 obtain ⟨b',o',cs,g1,g2,g3⟩:=h5 i C hi
 refine ⟨b',o',cs,g1,fun j u hj=> ?_,C.us _ _ _ g3 hk⟩
 have:b'=b:=by
  rw [g1] at e
  injection e with e1
  injection e1 with e2
  injection e2 with e3
  exact e3.symm
 subst this
 exact (World.cell?_of_block hb).trans (g2 j u hj)
theorem StS.resM3 (h:St w0 K B n ds a w) {fn:Func} (f:UF) {t s r kk kk':Nat} {e e' e'':Wr} (C C':CU) (v:Wq) (hr:fn.results=#[.cell t e, .cell s e', .cell r e'']) (hsz:jW P e=some kk) (hsz':jW P e'=some kk') (hsz'':zBU P e''=true)
  {y:Bx} (hB:zCY B t=some y) (hyC:y.c=C) (hyl: ∀cs W,C.p cs W->cs.length=kk) {y':Bx} (hB':zCY B s=some y') (hyC':y'.c=C') (hyl': ∀cs W,C'.p cs W->cs.length=kk') {y'':Bx} (hB'':zCY B r=some y'') (hyl'': ∀cs W,y''.c.p cs W->cs= [v])
  (hd: ∀cs cs' W,C.p cs W->C'.p cs' W->f.p (.tuple #[.agg cs.toArray, .agg cs'.toArray,v]) W):bodyPostM Fence.wide 0 P fn (Ret w0 f.tS) .ret a w:=by
 obtain ⟨cs,b,h0,h2,h1⟩:=h.cellM hsz hB hyC hyl (N:=w0.heap.size)
 obtain ⟨cs',b',h0',h2',h1'⟩:=h.cellM hsz' hB' hyC' hyl' (N:=w0.heap.size)
 obtain ⟨hy,rfl⟩:=qT hB''
 obtain ⟨cs'',g1,g2,g3,g4,g5⟩:=h.bx.mem y'' hy
 have e1:=hyl'' cs'' w g4
 have g0:a.tmps[y''.t]?.getD undef= (pO y''.b 0):=by rw [<-zWo];exact g1
 refine h.resM (v:= .tuple #[.agg cs.toArray, .agg cs'.toArray,v]) (fun w' ho=> ?_) fun w' ho=>f.oth ho (hd _ _ _ h2 h2')
 have hm:=qL (zEH ho g3)
 have:=jS hsz'' hm (u:=v) (by rw [e1];rfl)
 simp [results,hr,asAddr,h0,h1 w' ho,h0',h1' w' ho,g0,this]
def GBs (wb:Wp) (L:List (Nat×Obj)):Wp->Prop:=fun W=>Below wb.heap.size wb W/\ ∀q,q∈L->W.heap[q.1]?=some q.2
theorem zO0 {wb:Wp} {L:List (Nat×Obj)} (h:Below wb.heap.size wb w) (ho: ∀q,q∈L->w.heap[q.1]?=some q.2):Gr (GBs wb L) w:=fun _ hb=>⟨h.trans (hb.mono h.size),fun q hq=>(hb.block q.1 (zV0.1 (ho q hq)).1).trans (ho q hq)⟩
theorem zIa {wb:Wp} {L:List (Nat×Obj)} (h:Below wb.heap.size wb w) (ho: ∀q,q∈L->w.heap[q.1]?=some q.2) {c:Nat} (hc:wb.heap.size<=c) (hne: ∀q,q∈L->q.1≠c) (vs:Array Wq):Gr (GBs wb L) (w.setRow c vs):=zO0 (zJU h hc) fun q hq=>(setRow_other w c q.1 vs (hne q hq)).trans (ho q hq)
theorem zHJ {i c kk o:Nat} {t:Wr} {x y:Wt} {ty:Wr} {pos:String} {aft:Array Edge} (C:CU) (f:SF) (h:StS S w0 K B n ds a w) (ho:ops[i]?=some ⟨none, .store t x y,ty,pos,aft,none⟩) (hrd:Region.ready .any ops (lst ops.size D)= [i]) (hsz:zJh P t=some kk) {z:Bx} (hB:zCY B c=some z) (hro:z.r=false)
  (hp: ∀v W,(Wd.fct (j5 K B) x).p v W->v= pO z.b o) (hy: ∀v W,(Wd.fct (j5 K B) y).p v W->f.p v W)
  (hv: ∀v W,f.p v W->v.cells.size=kk/\(∀u,u∈v.cells.toList->u.oneCell'=true)/\v.cells.toList.all zU=true/\ ∀cs,z.c.p cs W->o+kk<=cs.length/\C.p (jR cs o v.cells.toList) W)
  (hcw: ∀vs:Array Wq,Gr CW (w.setRow z.b vs))
  (fin: ∀w',Gr CW w'->StS S w0 K (zDW B c C) n ds a w'->zHn F m P ops CW Q (i::D) a w'):zHn F m P ops CW Q D a w:=by
 obtain ⟨hz,hzc⟩:=qT hB
 obtain ⟨cs,h1,h2,h3,h4,h5⟩:=h.bx.mem z hz
 have e1:=hp _ _ (h.fct x)
 obtain ⟨g1,g2,g3,g4⟩:=hv _ _ (hy _ _ (h.fct y))
 obtain ⟨g5,g6⟩:=g4 cs h4
 have hk:jH w (w.setRow z.b (jR cs o (a.eval y).cells.toList).toArray):=zBy h3 (by simpa using h5)
 have hrun:(execOp a.eval ⟨none, .store t x y,ty,pos,aft,none⟩).run P w= .ok .skip (w.setRow z.b (jR cs o (a.eval y).cells.toList).toArray):=by
  unfold zJh at hsz
  cases hi:P.info? t with
  |none=>rw [hi] at hsz;cases hsz
  |some i=>
   rw [hi] at hsz
   simp only [Option.map_some,Option.some.injEq] at hsz
   have hr:=zAN (P:=P) (a.eval y).cells.toList o cs w h3 (by simp;omega) g2
   have hs:=zBH (b:=z.b) (a.eval y).cells.toList o 0
   rw [Nat.add_zero] at hs
   simp [execOp,Instr.storeAt,Instr.sureAddr,e1,storeVar,sizeOf,typeInfo,hi,hsz,g1,hs,hr]
 refine zFF hrd ho (zCK rfl) ⟨fun f hf=>(by cases hf), ?_⟩
 rw [Oper.semAt_eq _ _ _ (fun _ e=>by cases e),hrun]
 have hg:=hcw (jR cs o (a.eval y).cells.toList).toArray
 refine ⟨hg _ (zVP _ _),fin _ hg (h.turn hB hro (zCk w z.b _) (setRow_heap w z.b cs.toArray _ z.e (0,0) h3) (C.us _ _ _ g6 hk) ?_)⟩
 unfold jR
 simp only [List.all_append,zV5]
 exact ⟨⟨zWd.2 fun u hu=>zWd.1 h5 u (List.mem_of_mem_take hu),g3⟩,zWd.2 fun u hu=>zWd.1 h5 u (List.mem_of_mem_drop hu)⟩
end
section
variable {F:Fence} {m:Nat} {P:Wu} {w0:Wp} {ops:Array Oper} {G:Nat->SF} {d:Tmp} {ty:Wr} {pos:String} {aft:Array Edge} {CW:Wp->Prop} {x:Wt} {t:Wr}
theorem zEk {op:Op} (hc: ∀c,op≠ .call c) (h: ∀(b:Act) (W:Wp),(∀x,x∈op.operands.toList->(fct G x).p (b.eval x) W)-> ∃v, ∀W',CW W'->(execOp b.eval ⟨some d,op,ty,pos,aft,none⟩).run P W'= .ok (.value v) W'):FdC P CW w0 ops G ⟨some d,op,ty,pos,aft,none⟩:=by
 intro b W hb hr
 obtain ⟨v,hv⟩:=h b W fun x hx=>yY (fun t ht=>hr t (by unfold looks;simpa using ht)) hx
 refine ⟨v, .inl ⟨rfl,hv⟩,fun w=> ?_⟩
 unfold Oper.about
 split
 ·rename_i c hcc;exact absurd hcc (hc c)
 ·rfl
theorem zNY {a:Addr} (hx: ∀v W,(fct G x).p v W->v= .pointer (some a)):FdC P CW w0 ops G ⟨some d, .nilCheck x,ty,pos,aft,none⟩:=
 zEk (fun _ e=>by cases e) fun b W hh=>by
  have e:=hx _ _ (hh x (by simp [Op.operands]))
  exact ⟨.pointer (some a),fun W' _=>by simp [execOp,e]⟩
theorem zNZ {s:Wr} {f:Nat} {b o:Nat} (k:Nat) (hk:zBC P s f=some k) (hx: ∀v W,(fct G x).p v W->v= pO b o):FdC P CW w0 ops G ⟨some d, .fieldAddr s x f,ty,pos,aft,none⟩:=
 zEk (fun _ e=>by cases e) fun c W hh=>by
  have e:=hx _ _ (hh x (by simp [Op.operands]))
  refine ⟨.pointer (some ⟨b,o+k,none⟩),fun W' _=> ?_⟩
  unfold zBC at hk
  split at hk<;>try cases hk
  rename_i fs hu
  split at hk<;>try cases hk
  rename_i f' hf
  split at hk<;>try cases hk
  rename_i i hi
  split at hk<;>try cases hk
  rename_i hz
  simp [execOp,Instr.fieldAt,zVX hu,hf,e,Instr.sureAddr,fieldPlace,sizeOf,typeInfo,hi,hz,zV7]
theorem zQw {wb:Wp} {L:List (Nat×Obj)} {b:Nat} {cs:List Wq} {te:Wr} (u:Wq) (ht:zBU P t=true) (hL:(b,Obj.cells cs.toArray te (0,0))∈L) (hu:cs[0]?=some u) (hx: ∀v W,(fct G x).p v W->v= pO b 0):FdC P (GBs wb L) w0 ops G ⟨some d, .load t x,ty,pos,aft,none⟩:=
 zEk (fun _ e=>by cases e) fun c W hh=>by
  have e:=hx _ _ (hh x (by simp [Op.operands]))
  exact ⟨u,fun W' hW=>by simp [execOp,Instr.loadAt,e,Instr.sureAddr,jS ht (qL (hW.2 _ hL)) hu]⟩
theorem zQx {wb:Wp} {L:List (Nat×Obj)} {b o kk:Nat} {cs:List Wq} {te:Wr} (hk:jW P t=some kk) (hL:(b,Obj.cells cs.toArray te (0,0))∈L) (hl:o+kk<=cs.length) (hx: ∀v W,(fct G x).p v W->v= .pointer (some ⟨b,0+o,none⟩)):FdC P (GBs wb L) w0 ops G ⟨some d, .load t x,ty,pos,aft,none⟩:=
 zEk (fun _ e=>by cases e) fun c W hh=>by
  have e:=hx _ _ (hh x (by simp [Op.operands]))
  exact ⟨.agg ((cs.drop o).take kk).toArray,fun W' hW=>by simp only [execOp,Instr.loadAt,e,Instr.sureAddr,Sem.run_bind,Sem.run_pure,Result.andThen_ok,zAO hk ((qL (hW.2 _ hL)).drop o) (show kk<=(cs.drop o).length by rw [zV6];omega)]⟩
theorem zOQ {b o kk:Nat} {cs:List Wq} (f:UF) (hm:Mem w0 b 0 cs) (hk:jW P t=some kk) (hx: ∀v W,(fct G x).p v W->v= .pointer (some ⟨b,0+o,none⟩)) (hf:o+kk<=cs.length/\f.p (.agg ((cs.drop o).take kk).toArray) w0) (hd: ∀v W,f.p v W->(G d).p v W:=by exact fun _ _ h=>h):qG F m P w0 ops G ⟨some d, .load t x,ty,pos,aft,none⟩:=
 qH (fun _ e=>by cases e) (fun _ e=>by cases e) fun c W hb hh=>by
  have e:=hx _ _ (hh x (by simp [Op.operands]))
  exact ⟨.agg ((cs.drop o).take kk).toArray,by simp only [execOp,Instr.loadAt,e,Instr.sureAddr,Sem.run_bind,Sem.run_pure,Result.andThen_ok,zAO hk ((hm.below hb).drop o) (show kk<=(cs.drop o).length by rw [zV6];omega)],hd _ _ (f.us _ _ _ hf.2 (zP hb))⟩
theorem zK9 {b o:Nat} (n:Nat) (el:Wr) (ht:P.underlying t=some (.array n el)) (hi:(P.info? el).isSome=true) (hx: ∀v W,(fct G x).p v W->v= pO b o) (hd: ∀W,(G d).p (.slice (some ⟨b,o,none⟩) n n) W:=by exact fun _=>rfl):qG F m P w0 ops G ⟨some d, .slice t x none none none,ty,pos,aft,none⟩:=
 qH (fun _ e=>by cases e) (fun _ e=>by cases e) fun c W hb hh=>by
  have e:=hx _ _ (hh x (by simp [Op.operands]))
  obtain ⟨ie,hie⟩:=Option.isSome_iff_exists.1 hi
  refine ⟨.slice (some ⟨b,o,none⟩) n n, ?_,hd W⟩
  simp [execOp,Instr.sliceAt,zVX ht,e,Instr.sureAddr,Instr.sliceBounds,sizeOf,typeInfo,hie,zV7]
theorem zLm {i j k l:Nat} {y z u:Wt} (h: ∀u1 u2 u3 u4 W,(fct G x).p u1 W->(fct G y).p u2 W->(fct G z).p u3 W->(fct G u).p u4 W-> ∃cells,P.built t [(i,u1),(j,u2),(k,u3),(l,u4)]=some cells/\(G d).p (.agg cells) W):qG F m P w0 ops G ⟨some d, .build t #[(i,x),(j,y),(k,z),(l,u)],ty,pos,aft,none⟩:=
 zEa fun b W hb hh=>by
  obtain ⟨cells,h1,h2⟩:=h _ _ _ _ W (hh x fP) (hh y fP) (hh z fP) (hh u fP)
  exact ⟨cells,by simpa using h1,h2⟩
end
theorem zSL {T:V6} {v:Wq} {W:Wp} (h:(fTR 5 T).p v W): ∀p,p∈tl T->QB p.1 5/\QB p.2 5:=by
 obtain ⟨a,b,c,rfl,h1,h2,h3⟩:=h
 intro p hp
 rcases zVE.1 hp with rfl|hp
 ·exact zA8 dB (v:= .agg a.toArray) h1
 ·rcases zVE.1 hp with rfl|hp
  ·exact zA8 dB (v:= .agg b.toArray) h2
  ·obtain rfl:=zVK.1 hp
   exact zA8 dB (v:= .agg c.toArray) h3
def zAJ (S:V2×Bool):V2:=if S.2=true then S.1 else (((0:Int):Rat),((0:Int):Rat))
theorem zO8 {S:V2×Bool} (h:S.2=true):zAJ S=S.1:=if_pos h
theorem zO9 {S:V2×Bool} (h:S.2=false):zAJ S=(((0:Int):Rat),((0:Int):Rat)):=if_neg (by rw [h];decide)
theorem zMT {p e:V2} (hp:QB p.1 47/\QB p.2 47) (he:QB e.1 47/\QB e.2 47):QB (yL e p).1 95/\QB (yL e p).2 95:=⟨(he.1.sub hp.1).mono dB,(he.2.sub hp.2).mono dB⟩
theorem zLP {v u:Wq} {C:Prop} (hC:C) (h:v=u) (h1:u.cells=#[u]) (h2:zU u=true) (h3:u.oneCell'=true):v.cells.size=1/\(∀x,x∈v.cells.toList->x.oneCell'=true)/\v.cells.toList.all zU=true/\ ∀cs:List Wq,cs.length=1->0+1<=cs.length/\jR cs 0 v.cells.toList= [u]/\C:=by
 subst h
 refine ⟨by rw [h1];rfl,fun x hx=> ?_, ?_,fun cs hl=> ?_⟩
 ·rw [h1] at hx
  obtain rfl:x=v:=by simpa using hx
  exact h3
 ·rw [h1];simp [h2]
 ·obtain ⟨c,rfl⟩:=List.length_eq_one_iff.1 hl
  exact ⟨by simp,by rw [h1];rfl,hC⟩
theorem zPx {u:Wq} {C:CU} (hC: ∀cs W,C.p cs W->cs.length=1) (h1:u.cells=#[u]) (h2:zU u=true) (h3:u.oneCell'=true) (v:Wq) (W:Wp) (h:v=u):v.cells.size=1/\(∀x,x∈v.cells.toList->x.oneCell'=true)/\v.cells.toList.all zU=true/\ ∀cs,C.p cs W->0+1<=cs.length/\(wC [u]).p (jR cs 0 v.cells.toList) W:=by
 obtain ⟨g1,g2,g3,g4⟩:=zLP trivial h h1 h2 h3
 exact ⟨g1,g2,g3,fun cs hc=>⟨(g4 cs (hC cs W hc)).1,(g4 cs (hC cs W hc)).2.1⟩⟩
theorem zMl {W:Wp} {u v x:Wq} {R:List V2} {T:V6} {p e_:V2} {A:Ws Addr} {c:Nat} (hr_:(SF.row 6 (pvs 5 R)).p (.slice A (pvs 5 R).length c) W) (hx:(fTR 5 T).p x W) (h1:(fPV 47 p).p u W) (h2:(fPV 47 e_).p v W) (hn:R.length<=1000000) (hT:Tab W):Calls prog 15 #[(.slice A (pvs 5 R).length c),x,u,v] W (Ret W (zDL (fQN (zAJ (zAX (tl T) R p (yL e_ p))).1) (fQN (zAJ (zAX (tl T) R p (yL e_ p))).2) (fB (zAX (tl T) R p (yL e_ p)).2)).tS):=by
 have hd95:=zMT (zA8 dB h1) (zA8 dB h2)
 have hT5: ∀q,q∈tl T->QB q.1 5/\QB q.2 5:=zSL hx
 have hcq:=zIi (m:=185) (n:=213) (M:=430) (fun e he=>by have h9:=zO2 hT5 (zFd dB hr_) (zA8 dB h1) hd95 e he;exact ⟨h9.1.mono dB,h9.2.mono dB⟩) dB dB
 refine zKw [(UF.eq (.slice A (pvs 5 R).length c)).tS,(fTR 5 T).tS,(fPV 47 p).tS,(fPV 47 e_).tS] func15 rfl kI ⟨rfl,hx,h1,h2,trivial⟩ fun a s=> ?_
 replace s:=s.renew [(0, .u (UF.eq (.slice A (pvs 5 R).length c))),(1, .u (fTR 5 T)),(2, .u (fPV 47 p)),(3, .u (fPV 47 e_))] (fmz ⟨.inr ⟨_,rfl, .head _⟩,fmz ⟨.inr ⟨_,rfl,mz1⟩,fmz ⟨.inr ⟨_,rfl,mz2⟩,fmz ⟨.inr ⟨_,rfl,mz3⟩,fnz⟩⟩⟩⟩)
 refine zVC ?_
 refine zB 0 [] hmix s kI
  zD fun a w1 s=> ?_
 refine yV (CU.agg (fTR 5 T)) rfl s kI (fun v W h=>zOx h) fun b5 a w s=> ?_
 refine yV (CU.agg (fPV 47 p)) rfl s kI (fun v W h=>q8 h) fun b6 a w s=> ?_
 refine yV (CU.agg (fPV 47 e_)) rfl s kI (fun v W h=>q8 h) fun b7 a w s=> ?_
 refine zW (CU.len 3) (cs:=zR3) kI rfl s kI (fun W=>rfl) rfl fun b8 a w s=> ?_
 refine zW (CU.len 3) (cs:=zR3) kI rfl s kI (fun W=>rfl) rfl fun b9 a w s=> ?_
 refine zW (wE (.bool false) True) (cs:= [.bool false]) kI rfl s kI (fun W=>⟨rfl,trivial⟩) rfl fun b10 a w s=> ?_
 refine zA rfl ?_
 refine (wpIn_wide (n:=0)).2 (wp_scope_straight ((wpIn_wide (n:=0)).1 ?_))
 refine zVC ?_
 refine zB 3 ((13, .Z (fQN ((0:Int):Rat)))::(14, .Z (fQN ((1:Int):Rat)))::(15, .u (fPN (((0:Int):Rat),((1:Int):Rat)))):: []) hmix s kI
  (oc (zH zE zHb (fun u0 W hb (h0:u0= .int .i64 0)=>zHG _ h0 dB))<|oc (zH zE zHb (fun u0 W hb (h0:u0= .int .i64 1)=>zHG _ h0 dB))<|oc (yR (fun u v W (hu:QNp ((0:Int):Rat) u W) (hv:QNp ((1:Int):Rat) v W)=>zUM (zA7 _) (zA7 _) hu hv))<|zD) fun a w2 s=> ?_
 refine yV (CU.agg (fPN (((0:Int):Rat),((1:Int):Rat)))) rfl s kI (fun v W h=>q8 h) fun b16 a w s=> ?_
 refine zW (CU.len 1) (cs:= [.pointer none]) kI rfl s kI (fun W=>rfl) rfl fun b11 a w s=> ?_
 refine qY (c:=11) (o:=0) (kk:=1) (wC [pO b16 0]) ((UF.eq (pO b16 0)).tS) rfl s kI rfl rfl (fun _ _ h=>h.1) (fun _ _ h=>h.1) (zPx iiz rfl rfl rfl) fun a w s=> ?_
 refine zA rfl ?_
 refine zVC ?_
 refine zB 0 [] hmix s kI
  zD fun a w3 s=> ?_
 refine qY (c:=10) (o:=0) (kk:=1) (wE (.bool true) True) ((uB true).tS) rfl s kI rfl rfl (fun _ _ h=>h.1) iiz (zCN fun cs W h=>⟨(zF1 cs W h).1,trivial⟩) fun a w s=> ?_
 refine zA rfl ?_
 refine zVC ?_
 refine wpIn_label ?_
 refine zVC ?_
 refine zVC ?_
 replace s:StS noS W _ [⟨11,70,wC [pO b16 0],b11,true⟩,⟨16,72,CU.agg (fPN (((0:Int):Rat),((1:Int):Rat))),b16,false⟩,⟨10,4,wE (.bool true) True,b10,false⟩,⟨9,29,CU.len 3,b9,false⟩,⟨8,29,CU.len 3,b8,false⟩,⟨7,31,CU.agg (fPV 47 e_),b7,true⟩,⟨6,31,CU.agg (fPV 47 p),b6,true⟩,⟨5,42,CU.agg (fTR 5 T),b5,true⟩] _ _ a _:=s.freezeT [5,6,7,11]
 have soc:=s.old
 have o11:b11<_:=soc _ (.head _)
 have o16:b16<_:=soc _ mz1
 have o10:b10<_:=soc _ mz2
 have o9:b9<_:=soc _ mz3
 have o8:b8<_:=soc _ mz4
 have o7:b7<_:=soc _ mz5
 have o6:b6<_:=soc _ mz6
 have o5:b5<_:=soc _ mz7
 refine jT 8 ((17, .Z (UF.eq (.slice A (pvs 5 R).length c)))::(18, .Z (UF.eq (.slice (some ⟨b5,0,none⟩) 3 3)))::(19, .Z (fPV 47 p))::(20, .Z (fPV 47 e_))::(21, .Z (fPV 47 p))::(22, .Z (fPN (yL e_ p)))::(23, .Z (fPS (.slice A (pvs 5 R).length c) (.slice (some ⟨b5,0,none⟩) 3 3) (fPV 47 p) (fPV 95 (yL e_ p))))::(24, .s (zJL w 64 76 (CU.agg (fPS (.slice A (pvs 5 R).length c) (.slice (some ⟨b5,0,none⟩) 3 3) (fPV 47 p) (fPV 95 (yL e_ p)))))):: []) hmix s kI
  (oc zC<|oc (zK9 (b:=b5) (o:=0) 3 31 kI kI (fun _ _ h=>h.1))<|oc (zJ (f:=fPV 47 p) 6 kI (hz:=z4 _ _))<|oc (zJ (f:=fPV 47 e_) 6 kI (hz:=z4 _ _))<|oc (zJ (f:=fPV 47 p) 6 kI (hz:=z4 _ _))<|oc (zL zE zN2 (fun u0 u1 W hb (h0:(fPV 47 e_).p u0 W) (h1:(fPV 47 p).p u1 W)=>zIp (m:=47) (p:=e_) (q:=p) h0 h1 dB dB (hT.below (s.up hb))))<|oc (zLm (fun u1 u2 u3 u4 W (h1':u1=(.slice A (pvs 5 R).length c)) (h2':u2=(.slice (some ⟨b5,0,none⟩) 3 3)) (h3':(fPV 47 p).p u3 W) (h4':(fPN (yL e_ p)).p u4 W)=>by subst h1' h2';exact zUN h3' (zCH (p:=yL e_ p) (m:=95) hd95.1 hd95.2 h4')))<|oc (zH zE zTC (fun u0 W hb (h0:(fPS (.slice A (pvs 5 R).length c) (.slice (some ⟨b5,0,none⟩) 3 3) (fPV 47 p) (fPV 95 (yL e_ p))).p u0 W)=>(zOc h0).mono (wI (zG7 hb.size))))<|zD) fun a w4 s hr=> ?_
 refine zA rfl ?_
 refine zVG ?_
 obtain ⟨bc,csc,ec,hbc,hhc,hcc,hnc⟩:=hr (_,_) mz7
 replace s:=(s.keepK [] fnz).learn 24 _ ec
 replace s:StS noS W _ [⟨11,70,wC [pO b16 0],b11,true⟩,⟨16,72,CU.agg (fPN (zAA (evs (tl T) R p (yL e_ p)) 0).1),b16,false⟩,⟨10,4,wE (.bool true) ((zAA (evs (tl T) R p (yL e_ p)) 0).2=true),b10,false⟩,⟨9,29,CU.len 3,b9,false⟩,⟨8,29,CU.len 3,b8,false⟩,⟨7,31,CU.agg (fPV 47 e_),b7,true⟩,⟨6,31,CU.agg (fPV 47 p),b6,true⟩,⟨5,42,CU.agg (fTR 5 T),b5,true⟩] f15.ntmps _ a w4:=s.weakB 10 (wE (.bool true) ((zAA (evs (tl T) R p (yL e_ p)) 0).2=true)) rfl (jV kI) (fun cs W h=>⟨h.1,rfl⟩)
 have hCn: ∀q,inB ([⟨11,70,wC [pO b16 0],b11,true⟩,⟨16,72,CU.agg (fPN (zAA (evs (tl T) R p (yL e_ p)) 0).1),b16,false⟩,⟨10,4,wE (.bool true) ((zAA (evs (tl T) R p (yL e_ p)) 0).2=true),b10,false⟩,⟨9,29,CU.len 3,b9,false⟩,⟨8,29,CU.len 3,b8,false⟩,⟨7,31,CU.agg (fPV 47 e_),b7,true⟩,⟨6,31,CU.agg (fPV 47 p),b6,true⟩,⟨5,42,CU.agg (fTR 5 T),b5,true⟩]) q->W.heap.size<=q:=fun q hq=>s.inB_new hq
 have hCl: ∀q,inB ([⟨11,70,wC [pO b16 0],b11,true⟩,⟨16,72,CU.agg (fPN (zAA (evs (tl T) R p (yL e_ p)) 0).1),b16,false⟩,⟨10,4,wE (.bool true) ((zAA (evs (tl T) R p (yL e_ p)) 0).2=true),b10,false⟩,⟨9,29,CU.len 3,b9,false⟩,⟨8,29,CU.len 3,b8,false⟩,⟨7,31,CU.agg (fPV 47 e_),b7,true⟩,⟨6,31,CU.agg (fPV 47 p),b6,true⟩,⟨5,42,CU.agg (fTR 5 T),b5,true⟩]) q->q<w4.heap.size:=fun q ⟨z9,hz9,e9,_⟩=>e9▸s.old z9 hz9
 have hC5: ¬inB ([⟨11,70,wC [pO b16 0],b11,true⟩,⟨16,72,CU.agg (fPN (zAA (evs (tl T) R p (yL e_ p)) 0).1),b16,false⟩,⟨10,4,wE (.bool true) ((zAA (evs (tl T) R p (yL e_ p)) 0).2=true),b10,false⟩,⟨9,29,CU.len 3,b9,false⟩,⟨8,29,CU.len 3,b8,false⟩,⟨7,31,CU.agg (fPV 47 e_),b7,true⟩,⟨6,31,CU.agg (fPV 47 p),b6,true⟩,⟨5,42,CU.agg (fTR 5 T),b5,true⟩]) b5:=s.notIn (c:=5) rfl rfl
 have hCb: ¬inB ([⟨11,70,wC [pO b16 0],b11,true⟩,⟨16,72,CU.agg (fPN (zAA (evs (tl T) R p (yL e_ p)) 0).1),b16,false⟩,⟨10,4,wE (.bool true) ((zAA (evs (tl T) R p (yL e_ p)) 0).2=true),b10,false⟩,⟨9,29,CU.len 3,b9,false⟩,⟨8,29,CU.len 3,b8,false⟩,⟨7,31,CU.agg (fPV 47 e_),b7,true⟩,⟨6,31,CU.agg (fPV 47 p),b6,true⟩,⟨5,42,CU.agg (fTR 5 T),b5,true⟩]) bc:=fun ⟨z9,hz9,e9,_⟩=>by simp only [zVE,zWc,or_false] at hz9;rcases hz9 with rfl|rfl|rfl|rfl|rfl|rfl|rfl|rfl<;>(simp only at e9;omega)
 have hWc:=s.gr.size
 obtain ⟨cs5,hh5,hc5,_⟩:=s.boxAt (c:=5) rfl
 have hr5:=zOw hc5 (qL hh5)
 have hbw0:=s.below
 have hst: ∀w,Okw (inB ([⟨11,70,wC [pO b16 0],b11,true⟩,⟨16,72,CU.agg (fPN (zAA (evs (tl T) R p (yL e_ p)) 0).1),b16,false⟩,⟨10,4,wE (.bool true) ((zAA (evs (tl T) R p (yL e_ p)) 0).2=true),b10,false⟩,⟨9,29,CU.len 3,b9,false⟩,⟨8,29,CU.len 3,b8,false⟩,⟨7,31,CU.agg (fPV 47 e_),b7,true⟩,⟨6,31,CU.agg (fPV 47 p),b6,true⟩,⟨5,42,CU.agg (fTR 5 T),b5,true⟩])) w4 w->(SF.row 6 (pvs 5 R)).p (.slice A (pvs 5 R).length c) w/\(SF.row 6 (pvs 5 (tl T))).p (.slice (some ⟨b5,0,none⟩) 3 3) w/\Tab w:=fun w hw=>by
  have hlo:=zG3 (zFY hbw0) hw.1 hWc hCn
  exact ⟨zOC hr_ hlo,zPG hr5 (hw.1.block b5 (zV0.1 hh5).1 hC5) hw.2,zKf hT hlo⟩
 have hit:=zMk hhc hcc hnc hst hCl hCb hn (by show 3<=1000000;decide) (zKd T)
 refine zIx (N:=(evs (tl T) R p (yL e_ p)).length) (endless:=False) (fun k=> [⟨11,70,wC [pO b16 0],b11,true⟩,⟨16,72,CU.agg (fPN (zAA (evs (tl T) R p (yL e_ p)) k).1),b16,false⟩,⟨10,4,wE (.bool true) ((zAA (evs (tl T) R p (yL e_ p)) k).2=true),b10,false⟩,⟨9,29,CU.len 3,b9,false⟩,⟨8,29,CU.len 3,b8,false⟩,⟨7,31,CU.agg (fPV 47 e_),b7,true⟩,⟨6,31,CU.agg (fPV 47 p),b6,true⟩,⟨5,42,CU.agg (fTR 5 T),b5,true⟩]) ([⟨11,70,wC [pO b16 0],b11,true⟩,⟨16,72,CU.len 6,b16,false⟩,⟨10,4,wE (.bool false) ((zAX (tl T) R p (yL e_ p)).2=false),b10,false⟩,⟨9,29,CU.len 3,b9,false⟩,⟨8,29,CU.len 3,b8,false⟩,⟨7,31,CU.agg (fPV 47 e_),b7,true⟩,⟨6,31,CU.agg (fPV 47 p),b6,true⟩,⟨5,42,CU.agg (fTR 5 T),b5,true⟩]) (.exit 0) (fun k=> [(25, .u (fPV 213 (at_ (evs (tl T) R p (yL e_ p)) k)))]) s iiz (enters_of func64 kI rfl) hit (fun k=>rfl) ?_ rfl rfl rfl (fun k=>rfl) rfl (fun h=>h.elim) (fun l_ k xs WR hk so s=> ?_) (fun _ D WD s=> ?_) (fun D WD s=> ?_)
 ·intro k q hq
  obtain rfl:=zVK.1 hq
  exact .inr ⟨0,_,rfl,rfl,rfl⟩
 ·have hLR:Lo W WR:=zFY so.below
  have hWR:=so.gr.size
  have hSq: ∀q,(inB ([⟨11,70,wC [pO b16 0],b11,true⟩,⟨16,72,CU.agg (fPN (zAA (evs (tl T) R p (yL e_ p)) 0).1),b16,false⟩,⟨10,4,wE (.bool true) ((zAA (evs (tl T) R p (yL e_ p)) 0).2=true),b10,false⟩,⟨9,29,CU.len 3,b9,false⟩,⟨8,29,CU.len 3,b8,false⟩,⟨7,31,CU.agg (fPV 47 e_),b7,true⟩,⟨6,31,CU.agg (fPV 47 p),b6,true⟩,⟨5,42,CU.agg (fTR 5 T),b5,true⟩]) q∨WR.heap.size<=q)->W.heap.size<=q:=fun q hq=>by rcases hq with hq|hq;exact hCn q hq;omega
  generalize ({ tmps:=_,defers:= [] }:Act)=a at s ⊢
  refine zB 0 [] hmix s kI
   zD fun a w5 s=> ?_
  refine zW (CU.len 6) (cs:=zP6) kI rfl s kI (fun W=>rfl) rfl fun b12 a w s=> ?_
  refine zN (CU.agg (fPV 213 (at_ (evs (tl T) R p (yL e_ p)) k))) ((fPV 213 (at_ (evs (tl T) R p (yL e_ p)) k)).tS) rfl s kI rfl rfl rfl iiz iiz qZ fun a w s=> ?_
  refine zA rfl ?_
  refine ⟨s.gr,fun W2 hcell hW2=> ?_⟩
  have hL2:Lo W W2:=(zG3 hLR s.gr hWR hSq).trans fun p _=>hcell p
  obtain ⟨_,_,h9c,_⟩:=s.bx.mem _ (.head _)
  have hb9:W.heap.size<=b12:=by rcases h9c with h|h|h;cases h;exact zVH hWR h;exact hSq _ h
  replace s:=hW2 _ _ s
  have h9l:b12<W2.heap.size:=s.old _ (.head _)
  have hW2s:W.heap.size<=W2.heap.size:=by omega
  have hlo: ∀{w w':Wp},BlS (fun q=>inB ([⟨11,70,wC [pO b16 0],b11,true⟩,⟨16,72,CU.agg (fPN (zAA (evs (tl T) R p (yL e_ p)) 0).1),b16,false⟩,⟨10,4,wE (.bool true) ((zAA (evs (tl T) R p (yL e_ p)) 0).2=true),b10,false⟩,⟨9,29,CU.len 3,b9,false⟩,⟨8,29,CU.len 3,b8,false⟩,⟨7,31,CU.agg (fPV 47 e_),b7,true⟩,⟨6,31,CU.agg (fPV 47 p),b6,true⟩,⟨5,42,CU.agg (fTR 5 T),b5,true⟩]) q∨WR.heap.size<=q) W2 w->Below w.heap.size w w'->Lo W w':=fun h1 h2=>(zG3 hL2 h1 hW2s hSq).trans fun p hp=>h2.cell (zWi hp (zVH hW2s h1.size))
  have hkt:(zAA (evs (tl T) R p (yL e_ p)) k).2=true:=by obtain ⟨_,_,h9,_⟩:=s.boxAt (c:=10) rfl;exact h9.2
  refine zVG ?_
  refine zVC ?_
  refine zB 2 ((26, .u (UF.eq (pO b16 0)))::(27, .u (fPV 213 (at_ (evs (tl T) R p (yL e_ p)) k))):: []) hmix s kI
   (oc (qS (C:=(wC [pO b16 0]).cf) kI (fun _ _ h=>h.2) zCJ)<|oc (zJ (f:=fPV 213 (at_ (evs (tl T) R p (yL e_ p)) k)) 6 kI (hz:=z4 _ _))<|zD) fun a w6 s=> ?_
  refine zMP (c:=16) (CU.agg (fPN (zDN (zAA (evs (tl T) R p (yL e_ p)) k).1 (at_ (evs (tl T) R p (yL e_ p)) k)).1)) (fB (zDN (zAA (evs (tl T) R p (yL e_ p)) k).1 (at_ (evs (tl T) R p (yL e_ p)) k)).2) rfl zE zTB s kI rfl rfl iiz (fun cs v h1 h2 h3=> ?_) fun a w s=> ?_
  ·exact zSq h1 h2 (hcq k (Nat.le_of_lt hk)) h3 (zKf hT (hlo s.gr (zVP _ _)))
  refine qY (c:=10) (o:=0) (kk:=1) (wE (.bool ((zDN (zAA (evs (tl T) R p (yL e_ p)) k).1 (at_ (evs (tl T) R p (yL e_ p)) k)).2)) ((zAA (evs (tl T) R p (yL e_ p)) k).2=true)) ((uB ((zDN (zAA (evs (tl T) R p (yL e_ p)) k).1 (at_ (evs (tl T) R p (yL e_ p)) k)).2)).tS) rfl s kI rfl rfl (fun _ _ h=>h.1) iiz (zCN fun cs W h=>⟨(zF1 cs W h).1,h.2⟩) fun a w s=> ?_
  refine zA rfl ?_
  refine zVC ?_
  refine zB 2 ((29, .Z (uB ((zDN (zAA (evs (tl T) R p (yL e_ p)) k).1 (at_ (evs (tl T) R p (yL e_ p)) k)).2)))::(30, .u (uB (!((zDN (zAA (evs (tl T) R p (yL e_ p)) k).1 (at_ (evs (tl T) R p (yL e_ p)) k)).2)))):: []) hmix s kI
   (oc (qS (C:=(wE (.bool ((zDN (zAA (evs (tl T) R p (yL e_ p)) k).1 (at_ (evs (tl T) R p (yL e_ p)) k)).2)) ((zAA (evs (tl T) R p (yL e_ p)) k).2=true)).cf) kI (fun _ _ h=>h.2) zDJ)<|oc (zAr ((zDN (zAA (evs (tl T) R p (yL e_ p)) k).1 (at_ (evs (tl T) R p (yL e_ p)) k)).2) iiz (fun _=>rfl))<|zD) fun a w7 s=> ?_
  refine zA rfl ?_
  refine StS.cond s (!((zDN (zAA (evs (tl T) R p (yL e_ p)) k).1 (at_ (evs (tl T) R p (yL e_ p)) k)).2)) iiz (fun e=> ?_) (fun e=> ?_)
  ·refine zVL ?_
   have hst2:(zAX (tl T) R p (yL e_ p)).2=false:=zHd (k:=k+1) (by rw [zJc hkt];simpa using e) _ hk
   replace s:=s.popB
   exact ⟨rfl,((s.keepK [] fnz).weakB 16 (CU.len 6) rfl (jV kI) (fun cs W h=>z4 _ _ cs W h)).weakB 10 (wE (.bool false) ((zAX (tl T) R p (yL e_ p)).2=false)) rfl (jV kI) (fun cs W h=>⟨by have h0:=h.1;simp at e;rw [e] at h0;exact h0,hst2⟩)⟩
  ·refine zVF ?_
   have hk1:=zJc hkt
   have hk2:(zAA (evs (tl T) R p (yL e_ p)) (k+1)).2=true:=by rw [hk1];simpa using e
   replace s:=s.popB
   exact ⟨((s.keepK [] fnz).weakB 16 (CU.agg (fPN (zAA (evs (tl T) R p (yL e_ p)) (k+1)).1)) rfl (jV kI) (fun cs W h=>by rw [hk1];exact h)).weakB 10 (wE (.bool true) ((zAA (evs (tl T) R p (yL e_ p)) (k+1)).2=true)) rfl (jV kI) (fun cs W h=>⟨by have h0:=h.1;simp at e;rw [e] at h0;exact h0,hk2⟩),fun h=>h.elim⟩
 ·have hans:(zAX (tl T) R p (yL e_ p)).2=true:=by obtain ⟨_,_,h9,_⟩:=s.boxAt (c:=10) rfl;exact h9.2
  generalize ({ a with defers:=mark D::a.defers }:Act)=a at s ⊢
  refine zVC ?_
  refine zVC ?_
  refine zB 2 ((31, .Z (uB true))::(32, .u (uB false)):: []) hmix s kI
   (oc (qS (C:=(wE (.bool true) ((zAA (evs (tl T) R p (yL e_ p)) (evs (tl T) R p (yL e_ p)).length).2=true)).cf) kI (fun _ _ h=>h.2) zDJ)<|oc (zAr true iiz (fun _=>rfl))<|zD) fun a w8 s=> ?_
  refine zA rfl ?_
  refine StS.cond s false iiz (fun e=>by cases e) (fun e=> ?_)
  refine zVF ?_
  refine zVC ?_
  obtain ⟨cs16,hh16,hc16,_⟩:=s.boxAt (c:=16) rfl
  obtain ⟨cs11,hh11,hc11,_⟩:=s.boxAt (c:=11) rfl
  obtain rfl:cs11= [pO b16 0]:=hc11
  have n8:=s.twoB 8 16 rfl rfl rfl rfl;have n9:=s.twoB 9 16 rfl rfl rfl rfl;have n10:=s.twoB 10 16 rfl rfl rfl rfl
  have m8:=s.twoB 8 11 rfl rfl rfl rfl;have m9:=s.twoB 9 11 rfl rfl rfl rfl;have m10:=s.twoB 10 11 rfl rfl rfl rfl
  have ho8:=s.own (c:=8) rfl rfl;have ho9:=s.own (c:=9) rfl rfl;have ho10:=s.own (c:=10) rfl rfl
  have hl16:=z4 _ _ cs16 _ hc16
  obtain ⟨LL,hLL⟩: ∃L:List (Nat×Obj),L= [(b16,Obj.cells cs16.toArray 72 (0,0)),(b11,Obj.cells #[pO b16 0] 70 (0,0))]:=⟨_,rfl⟩
  have hoL: ∀q,q∈LL->w8.heap[q.1]?=some q.2:=fun q hq=>by subst hLL;rcases zVE.1 hq with rfl|hq;exact hh16;obtain rfl:=zVK.1 hq;exact hh11
  have hL16:(b16,Obj.cells cs16.toArray 72 (0,0))∈LL:=by subst hLL;exact .head _
  have hL11:(b11,Obj.cells ([pO b16 0]:List Wq).toArray 70 (0,0))∈LL:=by subst hLL;exact mz1
  have hne8: ∀q,q∈LL->q.1≠b8:=fun q hq=>by subst hLL;rcases zVE.1 hq with rfl|hq;exact n8;obtain rfl:=zVK.1 hq;exact m8
  have hne9: ∀q,q∈LL->q.1≠b9:=fun q hq=>by subst hLL;rcases zVE.1 hq with rfl|hq;exact n9;obtain rfl:=zVK.1 hq;exact m9
  have hne10: ∀q,q∈LL->q.1≠b10:=fun q hq=>by subst hLL;rcases zVE.1 hq with rfl|hq;exact n10;obtain rfl:=zVK.1 hq;exact m10
  refine zKG (GBs W LL) hmix s fun w9 hd s=> ?_
  have hwb:=s.below
  replace hoL: ∀q,q∈LL->w9.heap[q.1]?=some q.2:=fun q hq=>(hd.block q.1 (zV0.1 (hoL q hq)).1).trans (hoL q hq)
  replace hc16:=(CU.agg _).us _ _ _ hc16 (zP hd)
  refine zHK [4,5,6,7] [0,1,2,3,4,5,6,7] ((35, .u (UF.eq (pO b16 0)))::(36, .u (UF.eq (pO b16 0)))::(37, .u (UF.eq (.pointer (some ⟨b16,0+0,none⟩))))::(38, .u (fQN ((zAA (evs (tl T) R p (yL e_ p)) (evs (tl T) R p (yL e_ p)).length).1).1))::(39, .u (UF.eq (pO b16 0)))::(40, .u (UF.eq (pO b16 0)))::(41, .u (UF.eq (.pointer (some ⟨b16,0+3,none⟩))))::(42, .u (fQN ((zAA (evs (tl T) R p (yL e_ p)) (evs (tl T) R p (yL e_ p)).length).1).2)):: []) (zO0 hwb hoL) s kI
   (oc (zIU (b:=b11) (o:=0) (pO b16 0) kI (qL (hoL _ hL11)) rfl (fun _ _ h=>h.1))<|oc (zA0 (a:=⟨b16,0,none⟩) iiz)<|oc (jF (b:=b16) (o:=0) 0 kI iiz)<|oc (zOQ (b:=b16) (o:=0) (kk:=3) (fQN ((zAA (evs (tl T) R p (yL e_ p)) (evs (tl T) R p (yL e_ p)).length).1).1) (qL (hoL _ hL16)) kI iiz (zHq cs16 _ hc16))<|oc (zIU (b:=b11) (o:=0) (pO b16 0) kI (qL (hoL _ hL11)) rfl (fun _ _ h=>h.1))<|oc (zA0 (a:=⟨b16,0,none⟩) iiz)<|oc (jF (b:=b16) (o:=0) 3 kI iiz)<|oc (zOQ (b:=b16) (o:=3) (kk:=3) (fQN ((zAA (evs (tl T) R p (yL e_ p)) (evs (tl T) R p (yL e_ p)).length).1).2) (qL (hoL _ hL16)) kI iiz (zHp cs16 _ hc16))<|zD)
   (zBD rfl (zQw (x:= .tmp 11) (pO b16 0) kI hL11 rfl (fun _ _ h=>h.1)) (zBD rfl (zNY (x:= .tmp 39) (a:=⟨b16,0,none⟩) iiz) (zBD rfl (zNZ (x:= .tmp 40) (b:=b16) (o:=0) 3 kI iiz) (zBD rfl (zQx (x:= .tmp 41) (b:=b16) (o:=3) (kk:=3) kI hL16 oP iiz) zId)))) fun a w10 hbw s hr=> ?_
  replace hwb:=hwb.trans (hbw.mono hwb.size)
  replace hoL: ∀q,q∈LL->w10.heap[q.1]?=some q.2:=fun q hq=>(hbw.block q.1 (zV0.1 (hoL q hq)).1).trans (hoL q hq)
  refine zE7 (i:=8) (c:=8) (CU.agg (fQN ((zAA (evs (tl T) R p (yL e_ p)) (evs (tl T) R p (yL e_ p)).length).1).1)) ((fQN ((zAA (evs (tl T) R p (yL e_ p)) (evs (tl T) R p (yL e_ p)).length).1).1).tS) s rfl kI kI rfl rfl rfl iiz iiz zY (fun vs _=>zIa hwb hoL ho8 hne8 _) fun w11 hg _ s=> ?_
  replace hwb:=(hg _ (zVP _ _)).1
  replace hoL:=(hg _ (zVP _ _)).2
  refine zE7 (i:=9) (c:=9) (CU.agg (fQN ((zAA (evs (tl T) R p (yL e_ p)) (evs (tl T) R p (yL e_ p)).length).1).2)) ((fQN ((zAA (evs (tl T) R p (yL e_ p)) (evs (tl T) R p (yL e_ p)).length).1).2).tS) s rfl kI kI rfl rfl rfl iiz iiz zY (fun vs _=>zIa hwb hoL ho9 hne9 _) fun w12 hg _ s=> ?_
  replace hwb:=(hg _ (zVP _ _)).1
  replace hoL:=(hg _ (zVP _ _)).2
  refine zHJ (i:=10) (c:=10) (o:=0) (kk:=1) (wE (.bool true) True) ((uB true).tS) s rfl kI kI rfl rfl (fun _ _ h=>h.1) iiz (zCN fun cs W h=>⟨(zF1 cs W h).1,trivial⟩) (fun vs=>zIa hwb hoL ho10 hne10 _) fun w13 hg s=> ?_
  refine zIL kI ?_
  refine zVD ?_
  exact s.resM3 (zDL (fQN (zAJ (zAX (tl T) R p (yL e_ p))).1) (fQN (zAJ (zAX (tl T) R p (yL e_ p))).2) (fB (zAX (tl T) R p (yL e_ p)).2)) (CU.agg (fQN ((zAA (evs (tl T) R p (yL e_ p)) (evs (tl T) R p (yL e_ p)).length).1).1)) (CU.agg (fQN ((zAA (evs (tl T) R p (yL e_ p)) (evs (tl T) R p (yL e_ p)).length).1).2)) (.bool true) rfl kI kI kI rfl rfl (y5 _) rfl rfl (y5 _) rfl (fun cs W h=>h.1) (fun cs cs' W h1 h2=>⟨_,_,_,rfl,by rw [zO8 hans];exact h1,by rw [zO8 hans];exact h2,by rw [hans];rfl⟩)
 ·have hans:(zAX (tl T) R p (yL e_ p)).2=false:=by obtain ⟨_,_,h9,_⟩:=s.boxAt (c:=10) rfl;exact h9.2
  generalize ({ a with defers:=mark D::a.defers }:Act)=a at s ⊢
  refine zVL ?_
  refine zVC ?_
  refine zVC ?_
  refine zB 2 ((31, .Z (uB false))::(32, .u (uB true)):: []) hmix s kI
   (oc (qS (C:=(wE (.bool false) ((zAX (tl T) R p (yL e_ p)).2=false)).cf) kI (fun _ _ h=>h.2) zDJ)<|oc (zAr false iiz (fun _=>rfl))<|zD) fun a w14 s=> ?_
  refine zA rfl ?_
  refine StS.cond s true iiz (fun e=> ?_) (fun e=>by cases e)
  refine zVC ?_
  refine zB 2 ((33, .u (fQN ((0:Int):Rat)))::(34, .u (fQN ((0:Int):Rat))):: []) hmix s kI
   (oc (zH zE zHb (fun u0 W hb (h0:u0= .int .i64 0)=>zHG _ h0 dB))<|oc (zH zE zHb (fun u0 W hb (h0:u0= .int .i64 0)=>zHG _ h0 dB))<|zD) fun a w15 s=> ?_
  refine zN (CU.agg (fQN ((0:Int):Rat))) ((fQN ((0:Int):Rat)).tS) rfl s kI rfl rfl rfl iiz iiz zY fun a w s=> ?_
  refine zN (CU.agg (fQN ((0:Int):Rat))) ((fQN ((0:Int):Rat)).tS) rfl s kI rfl rfl rfl iiz iiz zY fun a w s=> ?_
  refine qY (c:=10) (o:=0) (kk:=1) (wE (.bool false) True) ((uB false).tS) rfl s kI rfl rfl (fun _ _ h=>h.1) iiz (zCN fun cs W h=>⟨(zF1 cs W h).1,trivial⟩) fun a w s=> ?_
  refine zA rfl ?_
  refine zVD ?_
  exact s.resM3 (zDL (fQN (zAJ (zAX (tl T) R p (yL e_ p))).1) (fQN (zAJ (zAX (tl T) R p (yL e_ p))).2) (fB (zAX (tl T) R p (yL e_ p)).2)) (CU.agg (fQN ((0:Int):Rat))) (CU.agg (fQN ((0:Int):Rat))) (.bool false) rfl kI kI kI rfl rfl (y5 _) rfl rfl (y5 _) rfl (fun cs W h=>h.1) (fun cs cs' W h1 h2=>⟨_,_,_,rfl,by rw [zO9 hans];exact h1,by rw [zO9 hans];exact h2,by rw [hans];rfl⟩)
theorem zHf {W:Wp} {u v x:Wq} {R:List V2} {T:V6} {p e_:V2} {r:Wq} (hr_:(SF.row 6 (pvs 5 R)).p r W) (hx:(fTR 5 T).p x W) (h1:(fPV 47 p).p u W) (h2:(fPV 47 e_).p v W) (hn:R.length<=1000000) (hT:Tab W):Calls prog 15 #[r,x,u,v] W (Ret W (zDL (fQN (zAJ (zAX (tl T) R p (yL e_ p))).1) (fQN (zAJ (zAX (tl T) R p (yL e_ p))).2) (fB (zAX (tl T) R p (yL e_ p)).2)).tS):=by
 obtain ⟨A,c,rfl,_⟩:=id hr_
 exact zMl hr_ hx h1 h2 hn hT
theorem zKr {ps:List V2} {t:V2} {m k M:Nat} (hq: ∀p,p∈ps->QB p.1 m/\QB p.2 m) (ht:QB t.1 k/\QB t.2 k) (hM:m+k+1<=M): ∀p,p∈yN ps t->QB p.1 M/\QB p.2 M:=fun p hp=>by
 obtain ⟨q,hq1,rfl⟩:=zVN.1 hp
 have h:=hq q hq1
 exact ⟨(h.1.add ht.1).mono oP,(h.2.add ht.2).mono oP⟩
end Go.Proofs.Wd

namespace Go.Proofs.Wd
open Tryz
set_option maxRecDepth 100000
set_option maxHeartbeats 1000000
open Go.RowKit Lb
section
variable {F:Fence} {m:Nat} {P:Wu} {w0:Wp} {ops:Array Oper} {G:Nat->SF} {d:Tmp} {ty:Wr} {pos:String} {aft:Array Edge}
theorem zHZ {x y:Wt} {ats:Array Wr} (u v:Int) (hx: ∀q W,(fct G x).p q W->q= .int .i64 u) (hy: ∀q W,(fct G y).p q W->q= .int .i64 v) (hd: ∀W,(G d).p (.int .i64 (max u v)) W:=by exact fun _=>rfl):qG F m P w0 ops G ⟨some d, .call ⟨.builtin .max,#[x,y],ats⟩,ty,pos,aft,none⟩:=by
 intro b W K Q hb hr hK
 have e1:=hx _ _ (yY hr (x:=x) (by simp [Op.operands,Call.operands]))
 have e2:=hy _ _ (yY hr (x:=y) (by simp [Op.operands,Call.operands]))
 refine ⟨fun f hf=>(by
  unfold Oper.about at hf
  simp [resolve,go_sem] at hf), ?_⟩
 rw [Oper.semAt_eq _ _ _ (fun _ e=>by cases e)]
 have:(execOp b.eval ⟨some d, .call ⟨.builtin .max,#[x,y],ats⟩,ty,pos,aft,none⟩).run P W= .ok (.value (.int .i64 (max u v))) W:=by
  have h:max u v=if u<v then v else u:=by split<;>omega
  simp [execOp,resolve,invoke,builtin,e1,e2,Builtin.max_,Builtin.max2,h]
 rw [this]
 exact hK _ _ (fun d' e'=>by cases e';exact hd _) (zVP _ _)
end
theorem zNR {R:List V2} {Ts:List V6} {a b:V2} (h: ∀j,j<Ts.length->(zAX (tl (at3 Ts j)) R a (yL b a)).2=false):zEe R Ts a b=true:=by
 unfold zEe
 simp only [zWk,zVT]
 intro t ht
 obtain ⟨j,hj,rfl⟩:=zLy ht
 rw [h j hj]
 decide
theorem zLG {R:List V2} {Ts:List V6} {a b:V2} {k:Nat} (hk:k<Ts.length) (h:(zAX (tl (at3 Ts k)) R a (yL b a)).2=true):zEe R Ts a b=false:=by
 unfold zEe
 rw [Bool.not_eq_false',List.any_eq_true]
 exact ⟨_,zMp hk,h⟩
def zQW (f:Nat->Bool) (N:Nat):Int:=match (List.range N).find? f with|some k=>(k:Int)|none=> -1
theorem zG6 {f:Nat->Bool} {N:Nat} (h: ∀j,j<N->f j=false):zQW f N= -1:=by
 unfold zQW
 rw [List.find?_eq_none.2 (fun x hx=>by rw [h x (zVO.1 hx)];simp)]
theorem zLW {f:Nat->Bool} {N k:Nat} (hk:k<N) (h: ∀j,j<k->f j=false) (e:f k=true):zQW f N=(k:Int):=by
 unfold zQW
 have:(List.range N).find? f=some k:=by
  rw [List.find?_range_eq_some]
  exact ⟨e,zVO.2 hk,fun j hj=>by rw [h j hj];rfl⟩
 rw [this]
def zJk (R:List V2) (Ts:List V6) (ps:List V2) (k:Nat):Bool:= !(zEe R Ts (at_ ps k) (at_ ps (k+1)))
def zCl (R:List V2) (Ts:List V6) (ps:List V2):Int:=if (ps.length=1/\zBV R Ts (at_ ps 0)=false) then 0 else zQW (zJk R Ts ps) (ps.length - 1)
theorem zJI {R:List V2} {Ts:List V6} {ps:List V2} (h1:ps.length=1) (h:zBV R Ts (at_ ps 0)=false):zCl R Ts ps=0:=if_pos ⟨h1,h⟩
theorem zEj {R:List V2} {Ts:List V6} {ps:List V2} (h: ¬(ps.length=1/\zBV R Ts (at_ ps 0)=false)):zCl R Ts ps=zQW (zJk R Ts ps) (ps.length - 1):=if_neg h
def zEd (ps:List V2):Nat->Rat
 |0=>((0:Int):Rat)
 |k+1=>zEd ps k+zJJ (at_ ps k) (at_ ps (k+1))
def plV (ps:List V2):Nat->List V2
 |0=> []
 |k+1=>if (decide (k=0)|| !(zET (at_ ps k) (at_ ps (k - 1))==0))=true then plV ps k++ [at_ ps k] else plV ps k
theorem zRC {ps:List V2} {k:Nat} (h:(decide (k=0)|| !(zET (at_ ps k) (at_ ps (k - 1))==0))=true):plV ps (k+1)=plV ps k++ [at_ ps k]:=if_pos h
theorem zS0 {ps:List V2} {k:Nat} (h:(decide (k=0)|| !(zET (at_ ps k) (at_ ps (k - 1))==0))=false):plV ps (k+1)=plV ps k:=if_neg (by rw [h];decide)
theorem zHT (ps:List V2): ∀k,(plV ps k).length<=k
 |0=>Nat.le_refl _
 |k+1=>by
  have ih:=zHT ps k
  show (if _ then _ else _:List V2).length<=_
  split
  ·rw [List.length_append];simp;omega
  ·omega
theorem zGl {x y:Rat} {m:Nat} (h1:QB x m) (h2:QB y m):QB (zBo x y) (2*m+1):=by
 unfold zBo
 split
 ·exact (h2.sub h1).mono oP
 ·exact (h1.sub h2).mono oP
theorem zGa {p q:V2} {m:Nat} (h1:QB p.1 m/\QB p.2 m) (h2:QB q.1 m/\QB q.2 m):QB (zJJ p q) (4*m+3):=((zGl h1.1 h2.1).add (zGl h1.2 h2.2)).mono oP
theorem zLE {ps:List V2} (h: ∀p,p∈ps->QB p.1 47/\QB p.2 47): ∀k,k<ps.length->k<=2->QB (zEd ps k) 400
 |0,_,_=>QB.zero dB
 |1,h1,_=>((QB.zero (m:=1) dB).add (zGa (h _ (jO (show 0<ps.length by omega))) (h _ (jO h1)))).mono dB
 |2,h2,_=>((((QB.zero (m:=1) dB).add (zGa (h _ (jO (show 0<ps.length by omega))) (h _ (jO (show 1<ps.length by omega))))).mono (m':=193) dB).add (zGa (h _ (jO (show 1<ps.length by omega))) (h _ (jO h2)))).mono dB
 |k+3,_,hk=>by omega
theorem zOk {m k M:Nat} {W:Wp} {r l v:Wq} {rs:List V2} {ts:List V6} {p:V2} (hr_:(SF.row 6 (pvs m rs)).p r W) (ht:(SF.row 18 (trs m ts)).p l W) (h1:(fPV k p).p v W) (hm0:0<m) (hmk:m<=k) (hk:k<=60) (hM:m+k+1<=M) (hM2:M<=60) (hn:rs.length<=1000000) (hnt:ts.length<=1000000) (hT:Tab W):Calls prog 55 #[r,l,v] W (Ret W (fB (!(ts.any (fun t=> !(qD (yN rs p) (tl t)))))).tS):=by
 have hk0:0<k:=by omega
 have hsh:=zKr (zFd hm0 hr_) (zA8 hk0 h1) hM
 refine yE [SF.row 6 (pvs m rs),SF.row 18 (trs m ts),(fPV k p).tS] func55 rfl kI ⟨hr_,ht,h1,trivial⟩ fun a s=> ?_
 refine zVC ?_
 refine zB 0 [] hmix s kI
  zD fun a w1 s=> ?_
 refine yV (CU.agg (fPV k p)) rfl s kI (fun v W h=>q8 h) fun b5 a w s=> ?_
 refine y8 (uB false) rfl s kI iiz fun a w s=> ?_
 refine zA rfl ?_
 refine zVC ?_
 refine jT 3 ((8, .s (SF.row 6 (pvs m rs)))::(9, .Z (fPV k p))::(10, .s (wL w 31 6 (pns (yN rs p)))):: []) hmix s kI
  (oc zC<|oc (zJ (f:=fPV k p) 6 kI (hz:=z4 _ _))<|oc (zL zE zTm (fun u0 u1 W hb (h0:(SF.row 6 (pvs m rs)).p u0 W) (h1:(fPV k p).p u1 W)=>(zOg (m:=k) (zBQ hmk _ _ h0) h1 oP hk0 hn (hT.below (s.up hb))).mono (wI (zCB hb.size))))<|zD) fun a w2 s hr=> ?_
 obtain ⟨v10,e10⟩: ∃v,a.tmps.getD 10 undef=v:=⟨_,rfl⟩
 have hv10:(SF.row 6 (pvs M (yN rs p))).p v10 w2:=e10▸zHS hsh _ _ (zBM _ _ (hr (_,_) mz2))
 have hvp:=zBq hv10
 replace s:=s.learn 10 v10 e10
 have hb0:=s.below
 have hT0:=hT
 replace hT:=hT.below hb0
 replace s:StS _ _ _ [⟨5,31,CU.agg (fPV k p),b5,true⟩] _ _ _ _:=s.freeze
 replace s:=s.reb rfl [(10, .u (UF.eq v10)),(6, .u (uB false)),(0, .o (SF.row 6 (pvs m rs))),(1, .o (SF.row 18 (trs m ts))),(2, .o ((fPV k p).tS))] (fmz ⟨.inl (.head _),fmz ⟨.inl mz1,fmz ⟨.inl mz2,fmz ⟨.inl mz3,fmz ⟨.inl mz4,fnz⟩⟩⟩⟩⟩)
 refine zW (CU.len 1) (cs:= [.slice none 0 0]) kI rfl s kI (fun W=>rfl) rfl fun b7 a w s=> ?_
 refine qY (c:=7) (o:=0) (kk:=1) (wC [v10]) ((UF.eq v10).tS) rfl s kI rfl rfl (fun _ _ h=>h.1) iiz (zMW hvp.1 hvp.2 (zEx hv10)) fun a w s=> ?_
 refine zA rfl ?_
 refine zVC ?_
 replace s:=s.drop [6]
 refine zB 5 ((11, .s (SF.row 18 (trs m ts)))::(12, .s (SF.fn prog (TBt M (fun t=> !(qD (yN rs p) (tl t))))))::(13, .Z (uB (ts.any (fun t=> !(qD (yN rs p) (tl t))))))::(14, .Z (uB (!(ts.any (fun t=> !(qD (yN rs p) (tl t)))))))::(6, .u (uB (!(ts.any (fun t=> !(qD (yN rs p) (tl t))))))):: []) hmix s kI
  (oc zC<|oc (zDe (fun u W hb (h:(wD b7 (wC [v10]).cf).p u W)=>zFj (enters_of func83 kI rfl) (fun W' hb' args R ⟨u1,t,e,h1,hT',hR⟩=>by subst e hR;simpa using zOl h1 ((wB _).st _ _ _ h.2 hb') ((SF.row 6 _).st _ _ _ ((SF.row 6 _).st _ _ _ hv10 (s.up hb)) hb') hM2 oP (by rw [zAM];exact hn) hT')))<|oc (zL zE zTl (fun u0 u1 W hb (h0:(SF.row 18 (trs m ts)).p u0 W) (h1:(SF.fn prog (TBt M (fun t=> !(qD (yN rs p) (tl t))))).p u1 W)=>zTR (zC1 oP _ _ h0) h1 hnt (hT.below (s.up hb))))<|oc (zAr (ts.any (fun t=> !(qD (yN rs p) (tl t)))) iiz (fun _=>rfl))<|oc zG<|zD) fun a w3 s=> ?_
 refine zA rfl ?_
 refine zVD ?_
 exact wS s hb0 (t:=6) rfl iiz
theorem zEV {W:Wp} {r l u v:Wq} {R:List V2} {Ts:List V6} {p e_:V2} (hr_:(SF.row 6 (pvs 5 R)).p r W) (ht:(SF.row 18 (trs 5 Ts)).p l W) (h1:(fPV 47 p).p u W) (h2:(fPV 47 e_).p v W) (hn:R.length<=1000000) (hnt:Ts.length<=1000000) (hT:Tab W):Calls prog 14 #[r,l,u,v] W (Ret W (fB (zEe R Ts p e_)).tS):=by
 refine yE [(UF.eq r).tS,(UF.eq l).tS,(fPV 47 p).tS,(fPV 47 e_).tS] func14 rfl kI ⟨rfl,rfl,h1,h2,trivial⟩ fun a s=> ?_
 replace s:=s.renew [(0, .u (UF.eq r)),(1, .u (UF.eq l)),(2, .u (fPV 47 p)),(3, .u (fPV 47 e_))] (fmz ⟨.inr ⟨_,rfl, .head _⟩,fmz ⟨.inr ⟨_,rfl,mz1⟩,fmz ⟨.inr ⟨_,rfl,mz2⟩,fmz ⟨.inr ⟨_,rfl,mz3⟩,fnz⟩⟩⟩⟩)
 refine zVC ?_
 refine zB 0 [] hmix s kI
  zD fun a w1 s=> ?_
 refine yV (CU.agg (fPV 47 p)) rfl s kI (fun v W h=>q8 h) fun b6 a w s=> ?_
 refine yV (CU.agg (fPV 47 e_)) rfl s kI (fun v W h=>q8 h) fun b7 a w s=> ?_
 refine y8 (uB false) rfl s kI iiz fun a w s=> ?_
 refine zA rfl ?_
 refine zVC ?_
 refine zVC ?_
 refine zB 3 ((14, .u (UF.eq l))::(15, .u (uI ((trs 5 Ts).length:Int)))::(16, .u (uI 0)):: []) hmix s kI
  (oc zC<|oc (yZ (z:=18) (Cs:=trs 5 Ts) kI (fun v W hb h=>(yJ ht h (s.up hb))) (fun _=>rfl))<|oc zC<|zD) fun a w2 s=> ?_
 refine zA rfl ?_
 refine zVG ?_
 refine zBp (fun k=>k<=Ts.length/\ ∀j,j<k->(zAX (tl (at3 Ts j)) R p (yL e_ p)).2=false) (fun k=> [(0, .u (UF.eq r)),(14, .u (UF.eq l)),(15, .u (uI ((trs 5 Ts).length:Int))),(16, .u (uI ((k:Nat):Int)))]) (fun k=>Ts.length - k) (0:Nat) (⟨zVM _,fun j hj=>absurd hj (zVW _)⟩) (s.keepK _ (fmz ⟨mz4,fmz ⟨.head _,fmz ⟨mz1,fmz ⟨mz2,fnz⟩⟩⟩⟩)) fun k a w hx s=> ?_
 refine zVC ?_
 refine zB 1 ((17, .u (uB (decide ((k:Int)<((trs 5 Ts).length:Int))))):: []) hmix s kI
  (oc (zT .i64 (k:Int) ((trs 5 Ts).length:Int) (decide ((k:Int)<((trs 5 Ts).length:Int))) iiz iiz rfl rfl)<|zD) fun a w3 s=> ?_
 refine zA rfl ?_
 refine zVC ?_
 refine StS.cond s (decide ((k:Int)<((trs 5 Ts).length:Int))) iiz (fun e=> ?_) (fun e=> ?_)
 ·have hk:k<Ts.length:=by have:=zVI e;simp at this;omega
  refine zVF ?_
  refine zVC ?_
  refine zVG ?_
  refine zVC ?_
  refine zB 2 ((18, .Y (fTR 5 (at3 Ts k)))::(19, .u (fTR 5 (at3 Ts k))):: []) hmix s kI
   (oc (yX (z:=18) (Cs:=trs 5 Ts) (i:=k) (C:=CU.agg (fTR 5 (at3 Ts k))) kI (zDz hk) (fun v W hb h=>(yJ ht h (s.up hb))) iiz)<|oc (zJ (f:=fTR 5 (at3 Ts k)) 18 kI (hz:=zEr _ _))<|zD) fun a w4 s=> ?_
  refine zW (CU.len 18) (cs:= [.bool false, .slice none 0 0, .slice none 0 0, .bool false, .slice none 0 0, .slice none 0 0, .bool false, .slice none 0 0, .slice none 0 0, .bool false, .slice none 0 0, .slice none 0 0, .bool false, .slice none 0 0, .slice none 0 0, .bool false, .slice none 0 0, .slice none 0 0]) kI rfl s kI (fun W=>rfl) rfl fun b10 a w s=> ?_
  refine zN (CU.agg (fTR 5 (at3 Ts k))) ((fTR 5 (at3 Ts k)).tS) rfl s kI rfl rfl rfl iiz iiz zFs fun a w s=> ?_
  refine zA rfl ?_
  refine zVC ?_
  refine zB 9 ((21, .Z (UF.eq r))::(22, .Z (fTR 5 (at3 Ts k)))::(23, .Z (fPV 47 p))::(24, .Z (fPV 47 e_))::(25, .Z (zDL (fQN ((zAJ (zAX (tl (at3 Ts k)) R p (yL e_ p))).1)) (fQN ((zAJ (zAX (tl (at3 Ts k)) R p (yL e_ p))).2)) (uB ((zAX (tl (at3 Ts k)) R p (yL e_ p)).2))))::(20, .Z (zDL (fQN ((zAJ (zAX (tl (at3 Ts k)) R p (yL e_ p))).1)) (fQN ((zAJ (zAX (tl (at3 Ts k)) R p (yL e_ p))).2)) (uB ((zAX (tl (at3 Ts k)) R p (yL e_ p)).2))))::(26, .u (fQN ((zAJ (zAX (tl (at3 Ts k)) R p (yL e_ p))).1)))::(27, .u (fQN ((zAJ (zAX (tl (at3 Ts k)) R p (yL e_ p))).2)))::(28, .u (uB ((zAX (tl (at3 Ts k)) R p (yL e_ p)).2))):: []) hmix s kI
   (oc zC<|oc (zJ (f:=fTR 5 (at3 Ts k)) 18 kI (hz:=zEr _ _))<|oc (zJ (f:=fPV 47 p) 6 kI (hz:=z4 _ _))<|oc (zJ (f:=fPV 47 e_) 6 kI (hz:=z4 _ _))<|oc (zBh zE zR8 (fun u0 u1 u2 u3 W hb (h0:u0=r) (h1:(fTR 5 (at3 Ts k)).p u1 W) (h2:(fPV 47 p).p u2 W) (h3:(fPV 47 e_).p u3 W)=>zHf (yJ hr_ h0 (s.up hb)) h1 h2 h3 hn (hT.below (s.up hb))))<|oc zC<|oc (zD9 (A:=(fQN ((zAJ (zAX (tl (at3 Ts k)) R p (yL e_ p))).1)).tS) (B:=(fQN ((zAJ (zAX (tl (at3 Ts k)) R p (yL e_ p))).2)).tS) (C:=(uB ((zAX (tl (at3 Ts k)) R p (yL e_ p)).2)).tS) iiz)<|oc (zD8 (A:=(fQN ((zAJ (zAX (tl (at3 Ts k)) R p (yL e_ p))).1)).tS) (B:=(fQN ((zAJ (zAX (tl (at3 Ts k)) R p (yL e_ p))).2)).tS) (C:=(uB ((zAX (tl (at3 Ts k)) R p (yL e_ p)).2)).tS) iiz)<|oc (zD7 (A:=(fQN ((zAJ (zAX (tl (at3 Ts k)) R p (yL e_ p))).1)).tS) (B:=(fQN ((zAJ (zAX (tl (at3 Ts k)) R p (yL e_ p))).2)).tS) (C:=(uB ((zAX (tl (at3 Ts k)) R p (yL e_ p)).2)).tS) iiz)<|zD) fun a w5 s=> ?_
  refine zW (CU.len 3) (cs:=zR3) kI rfl s kI (fun W=>rfl) rfl fun b11 a w s=> ?_
  refine zW (CU.len 3) (cs:=zR3) kI rfl s kI (fun W=>rfl) rfl fun b12 a w s=> ?_
  refine zN (CU.agg (fQN ((zAJ (zAX (tl (at3 Ts k)) R p (yL e_ p))).1))) ((fQN ((zAJ (zAX (tl (at3 Ts k)) R p (yL e_ p))).1)).tS) rfl s kI rfl rfl rfl iiz iiz zY fun a w s=> ?_
  refine zN (CU.agg (fQN ((zAJ (zAX (tl (at3 Ts k)) R p (yL e_ p))).2))) ((fQN ((zAJ (zAX (tl (at3 Ts k)) R p (yL e_ p))).2)).tS) rfl s kI rfl rfl rfl iiz iiz zY fun a w s=> ?_
  refine y8 (uB ((zAX (tl (at3 Ts k)) R p (yL e_ p)).2)) rfl s kI iiz fun a w s=> ?_
  refine zA rfl ?_
  refine zVC ?_
  refine zB 1 ((29, .u (uB ((zAX (tl (at3 Ts k)) R p (yL e_ p)).2))):: []) hmix s kI
   (oc zC<|zD) fun a w6 s=> ?_
  refine zA rfl ?_
  refine StS.cond s ((zAX (tl (at3 Ts k)) R p (yL e_ p)).2) iiz (fun e=> ?_) (fun e=> ?_)
  ·refine zVC ?_
   refine zB 1 ((8, .u (uB false)):: []) hmix s kI
    (oc zG<|zD) fun a w7 s=> ?_
   refine zA rfl ?_
   refine zVD ?_
   exact wH s (t:=8) rfl (fun v W h=>by rw [zLG hk e];exact h)
  ·refine zVF ?_
   refine yF 1 ((30, .u (uI ((k+1:Nat):Int))):: []) s kI
    (oc (qA .i64 (k:Int) 1 ((k+1:Nat):Int) iiz iiz (wrap64 _ _ oP oP))<|zD) fun a w8 s=> ?_
   replace s:=s.drop [16]
   refine zCt (uI ((k+1:Nat):Int)) rfl s kI zC kI fun a w s=> ?_
   refine zA rfl ?_
   replace s:=s.popB
   replace s:=s.popB
   replace s:=s.popB
   exact ⟨k+1,⟨hk,fun j hj=>by rcases zVR (zVU hj) with h|h;exact hx.2 j h;rw [h];exact e⟩,(by show Ts.length - (k+1)<Ts.length - k;omega),s.keepK _ (fmz ⟨mz9,fmz ⟨zEb,fmz ⟨zLr,fmz ⟨.head _,fnz⟩⟩⟩⟩)⟩
 ·have hk:k=Ts.length:=by have h7:=zVJ e;have h8:=hx.1;simp at h7;omega
  refine zVL ?_
  refine zVC ?_
  refine zB 1 ((8, .u (uB true)):: []) hmix s kI
   (oc zG<|zD) fun a w9 s=> ?_
  refine zA rfl ?_
  refine zVD ?_
  exact wH s (t:=8) rfl (fun v W h=>by rw [zNR (fun j hj=>hx.2 j oP)];exact h)
theorem wZ (z:Int) (h1: -9223372036854775808<=z) (h2:z<=9223372036854775807):IntKind.i64.wrap z=z:=by rw [IntKind.wrap_i64];omega
theorem zJg {W:Wp} {r l q:Wq} {R:List V2} {Ts:List V6} {ps:List V2} (hr_:(SF.row 6 (pvs 5 R)).p r W) (ht:(SF.row 18 (trs 5 Ts)).p l W) (hq_:(SF.row 6 (pvs 47 ps)).p q W) (hn:R.length<=1000000) (hnt:Ts.length<=1000000) (hnq:ps.length<=1000000) (hT:Tab W):Calls prog 34 #[r,l,q] W (Ret W (fI (zCl R Ts ps)).tS):=by
 refine yE [(UF.eq r).tS,(UF.eq l).tS,(UF.eq q).tS] func34 rfl kI ⟨rfl,rfl,rfl,trivial⟩ fun a s=> ?_
 replace s:=s.renew [(0, .u (UF.eq r)),(1, .u (UF.eq l)),(2, .u (UF.eq q))] (fmz ⟨.inr ⟨_,rfl, .head _⟩,fmz ⟨.inr ⟨_,rfl,mz1⟩,fmz ⟨.inr ⟨_,rfl,mz2⟩,fnz⟩⟩⟩)
 refine zVC ?_
 refine zB 1 ((6, .u (uI 0)):: []) hmix s kI
  (oc zG<|zD) fun a w1 s=> ?_
 refine zA rfl ?_
 refine zVC ?_
 refine zVC ?_
 rcases Nat.decEq ps.length 1 with hl1|hl1
 ·refine zB 12 ((8, .Z (UF.eq q))::(9, .Z (uI ((pvs 47 ps).length:Int)))::(10, .Z (uB false))::(11, .Z (uB false))::(19, .u (uB false)):: []) hmix s kI
   (oc zC<|oc (yZ (z:=6) (Cs:=pvs 47 ps) kI (fun v W hb h=>(yJ hq_ h (s.up hb))) (fun _=>rfl))<|oc (zT .i64 ((pvs 47 ps).length:Int) 1 false iiz iiz (zVZ.2 (by simp;omega)) rfl)<|oc zC<|oc (zF 11 false kI iiz (fun e=>by cases e) (fun _ _=>trivial))<|oc (zF 11 false kI iiz (fun e=>by cases e) (fun _ _=>trivial))<|oc (zF 11 false kI iiz (fun e=>by cases e) (fun _ _=>trivial))<|oc (zF 11 false kI iiz (fun e=>by cases e) (fun _ _=>trivial))<|oc (zF 11 false kI iiz (fun e=>by cases e) (fun _ _=>trivial))<|oc (zF 11 false kI iiz (fun e=>by cases e) (fun _ _=>trivial))<|oc (zF 11 false kI iiz (fun e=>by cases e) (fun _ _=>trivial))<|oc (yC false iiz (fun e=>by cases e) fN)<|zD) fun a w2 s=> ?_
  refine zA rfl ?_
  refine StS.cond s false iiz (fun e=>by cases e) (fun e=> ?_)
  refine zVF ?_
  refine zVC ?_
  refine zVC ?_
  have hnn: ¬(ps.length=1/\zBV R Ts (at_ ps 0)=false):=fun h=>hl1 h.1
  refine zB 5 ((20, .Z (UF.eq q))::(21, .Z (uI ((pvs 47 ps).length:Int)))::(22, .Z (uI (((pvs 47 ps).length:Int) - 1)))::(23, .u (uI (max (((pvs 47 ps).length:Int) - 1) 0)))::(24, .u (uI 0)):: []) hmix s kI
   (oc zC<|oc (yZ (z:=6) (Cs:=pvs 47 ps) kI (fun v W hb h=>(yJ hq_ h (s.up hb))) (fun _=>rfl))<|oc (zFO .i64 ((pvs 47 ps).length:Int) 1 (((pvs 47 ps).length:Int) - 1) iiz iiz (by simp only [zVQ];exact wZ _ oP oP))<|oc (zHZ (((pvs 47 ps).length:Int) - 1) 0 iiz iiz)<|oc zC<|zD) fun a w3 s=> ?_
  refine zA rfl ?_
  refine zVG ?_
  refine zBp (fun k=>k<=ps.length - 1/\ ∀j,j<k->zJk R Ts ps j=false) (fun k=> [(0, .u (UF.eq r)),(1, .u (UF.eq l)),(2, .u (UF.eq q)),(23, .u (uI (max (((pvs 47 ps).length:Int) - 1) 0))),(24, .u (uI ((k:Nat):Int)))]) (fun k=>(ps.length - 1) - k) (0:Nat) (⟨zVM _,fun j hj=>absurd hj (zVW _)⟩) (s.keepK _ (fmz ⟨mz4,fmz ⟨mz5,fmz ⟨mz6,fmz ⟨.head _,fmz ⟨mz1,fnz⟩⟩⟩⟩⟩)) fun k a w hx s=> ?_
  have hlz:(pvs 47 ps).length=ps.length:=by simp
  refine zVC ?_
  refine zB 1 ((25, .u (uB (decide ((k:Int)<max (((pvs 47 ps).length:Int) - 1) 0)))):: []) hmix s kI
   (oc (zT .i64 (k:Int) (max (((pvs 47 ps).length:Int) - 1) 0) (decide ((k:Int)<max (((pvs 47 ps).length:Int) - 1) 0)) iiz iiz rfl rfl)<|zD) fun a w4 s=> ?_
  refine zA rfl ?_
  refine zVC ?_
  refine StS.cond s (decide ((k:Int)<max (((pvs 47 ps).length:Int) - 1) 0)) iiz (fun e=> ?_) (fun e=> ?_)
  ·have hk:k+1<ps.length:=by have:=zVI e;rw [hlz] at this;omega
   refine zVF ?_
   refine zVC ?_
   refine zVG ?_
   refine zVC ?_
   refine zB 2 ((26, .Z (uI (k:Int)))::(7, .u (uI (k:Int))):: []) hmix s kI
    (oc zC<|oc zG<|zD) fun a w5 s=> ?_
   refine zA rfl ?_
   refine zVC ?_
   refine zB 13 ((27, .Z (UF.eq r))::(28, .Z (UF.eq l))::(29, .Z (UF.eq q))::(30, .Z (uI (k:Int)))::(31, .Y (fPV 47 (at_ ps k)))::(32, .Z (fPV 47 (at_ ps k)))::(33, .Z (UF.eq q))::(34, .Z (uI (k:Int)))::(35, .Z (uI ((k+1:Nat):Int)))::(36, .Y (fPV 47 (at_ ps (k+1))))::(37, .Z (fPV 47 (at_ ps (k+1))))::(38, .Z (uB (zEe R Ts (at_ ps k) (at_ ps (k+1)))))::(39, .u (uB (!(zEe R Ts (at_ ps k) (at_ ps (k+1)))))):: []) hmix s kI
    (oc zC<|oc zC<|oc zC<|oc zC<|oc (yX (z:=6) (Cs:=pvs 47 ps) (i:=k) (C:=CU.agg (fPV 47 (at_ ps k))) kI (jU (show k<ps.length by omega)) (fun v W hb h=>(yJ hq_ h (s.up hb))) iiz)<|oc (zJ (f:=fPV 47 (at_ ps k)) 6 kI (hz:=z4 _ _))<|oc zC<|oc zC<|oc (qA .i64 (k:Int) 1 ((k+1:Nat):Int) iiz iiz (wrap64 _ _ oP oP))<|oc (yX (z:=6) (Cs:=pvs 47 ps) (i:=(k+1)) (C:=CU.agg (fPV 47 (at_ ps (k+1)))) kI (jU (show k+1<ps.length by omega)) (fun v W hb h=>(yJ hq_ h (s.up hb))) iiz)<|oc (zJ (f:=fPV 47 (at_ ps (k+1))) 6 kI (hz:=z4 _ _))<|oc (zBh zE zIg (fun u0 u1 u2 u3 W hb (h0:u0=r) (h1:u1=l) (h2:(fPV 47 (at_ ps k)).p u2 W) (h3:(fPV 47 (at_ ps (k+1))).p u3 W)=>zEV (yJ hr_ h0 (s.up hb)) (yJ ht h1 (s.up hb)) h2 h3 hn hnt (hT.below (s.up hb))))<|oc (zAr (zEe R Ts (at_ ps k) (at_ ps (k+1))) iiz (fun _=>rfl))<|zD) fun a w6 s=> ?_
   refine zA rfl ?_
   refine StS.cond s (!(zEe R Ts (at_ ps k) (at_ ps (k+1)))) iiz (fun e=> ?_) (fun e=> ?_)
   ·refine zVC ?_
    refine zB 2 ((40, .Z (uI (k:Int)))::(6, .u (uI (k:Int))):: []) hmix s kI
     (oc zC<|oc zG<|zD) fun a w7 s=> ?_
    refine zA rfl ?_
    refine zVD ?_
    exact wH s (t:=6) rfl (fun v W h=>by rw [zEj hnn,zLW (k:=k) oP hx.2 e];exact h)
   ·refine zVF ?_
    refine yF 1 ((41, .u (uI ((k+1:Nat):Int))):: []) s kI
     (oc (qA .i64 (k:Int) 1 ((k+1:Nat):Int) iiz iiz (wrap64 _ _ oP oP))<|zD) fun a w8 s=> ?_
    replace s:=s.drop [24]
    refine zCt (uI ((k+1:Nat):Int)) rfl s kI zC kI fun a w s=> ?_
    refine zA rfl ?_
    exact ⟨k+1,⟨by omega,fun j hj=>by rcases zVR (zVU hj) with h|h;exact hx.2 j h;rw [h];exact e⟩,(by show ps.length - 1 - (k+1)<ps.length - 1 - k;omega),s.keepK _ (fmz ⟨mz5,fmz ⟨mz6,fmz ⟨mz7,fmz ⟨mz8,fmz ⟨.head _,fnz⟩⟩⟩⟩⟩)⟩
  ·have hk:k=ps.length - 1:=by have h7:=zVJ e;have h8:=hx.1;rw [hlz] at h7;omega
   refine zVL ?_
   refine zVC ?_
   refine zB 1 ((6, .u (uI (-1))):: []) hmix s kI
    (oc zG<|zD) fun a w9 s=> ?_
   refine zA rfl ?_
   refine zVD ?_
   exact wH s (t:=6) rfl (fun v W h=>by rw [zEj hnn,zG6 (fun j hj=>hx.2 j oP)];exact h)
 ·refine zB 12 ((8, .Z (UF.eq q))::(9, .Z (uI ((pvs 47 ps).length:Int)))::(10, .Z (uB true))::(11, .Z (uB true))::(12, .Z (UF.eq r))::(13, .Z (UF.eq l))::(14, .Z (UF.eq q))::(15, .Y (fPV 47 (at_ ps 0)))::(16, .Z (fPV 47 (at_ ps 0)))::(17, .Z (uB (zBV R Ts (at_ ps 0))))::(18, .Z (uB (!(zBV R Ts (at_ ps 0)))))::(19, .u (uB (!(zBV R Ts (at_ ps 0))))):: []) hmix s kI
   (oc zC<|oc (yZ (z:=6) (Cs:=pvs 47 ps) kI (fun v W hb h=>(yJ hq_ h (s.up hb))) (fun _=>rfl))<|oc (zT .i64 ((pvs 47 ps).length:Int) 1 true iiz iiz (zVY.2 (by simp;omega)) rfl)<|oc zC<|oc (zF 11 true kI iiz (fun _=>zC) arf)<|oc (zF 11 true kI iiz (fun _=>zC) arf)<|oc (zF 11 true kI iiz (fun _=>zC) arf)<|oc (zF 11 true kI iiz (fun _=>yX (z:=6) (Cs:=pvs 47 ps) (i:=0) (C:=CU.agg (fPV 47 (at_ ps 0))) kI (jU (show 0<ps.length by omega)) (fun v W hb h=>(yJ hq_ h (s.up hb))) iiz) arf)<|oc (zF 11 true kI iiz (fun _=>zJ (f:=fPV 47 (at_ ps 0)) 6 kI (hz:=z4 _ _)) arf)<|oc (zF 11 true kI iiz (fun _=>zCA zE zTv (fun u0 u1 u2 W hb (h0:u0=r) (h1:u1=l) (h2:(fPV 47 (at_ ps 0)).p u2 W)=>zOk (m:=5) (k:=47) (M:=53) (ts:=Ts) (rs:=R) (p:=at_ ps 0) (yJ hr_ h0 (s.up hb)) (yJ ht h1 (s.up hb)) h2 dB dB dB dB dB hn hnt (hT.below (s.up hb)))) arf)<|oc (zF 11 true kI iiz (fun _=>zAr (zBV R Ts (at_ ps 0)) iiz (fun _=>rfl)) arf)<|oc (yC true iiz fN (fun e=>by cases e))<|zD) fun a w10 s=> ?_
  refine zA rfl ?_
  refine StS.cond s (!(zBV R Ts (at_ ps 0))) iiz (fun e=> ?_) (fun e=> ?_)
  ·refine zVC ?_
   replace s:=s.drop [6]
   refine zB 1 ((6, .u (uI 0)):: []) hmix s kI
    (oc zG<|zD) fun a w11 s=> ?_
   refine zA rfl ?_
   refine zVD ?_
   exact wH s (t:=6) rfl (fun v W h=>by rw [zJI hl1 (by simpa using e)];exact h)
  ·refine zVF ?_
   refine zVC ?_
   refine zVC ?_
   have hnn: ¬(ps.length=1/\zBV R Ts (at_ ps 0)=false):=fun h=>by rw [h.2] at e;cases e
   refine zB 5 ((20, .Z (UF.eq q))::(21, .Z (uI ((pvs 47 ps).length:Int)))::(22, .Z (uI (((pvs 47 ps).length:Int) - 1)))::(23, .u (uI (max (((pvs 47 ps).length:Int) - 1) 0)))::(24, .u (uI 0)):: []) hmix s kI
    (oc zC<|oc (yZ (z:=6) (Cs:=pvs 47 ps) kI (fun v W hb h=>(yJ hq_ h (s.up hb))) (fun _=>rfl))<|oc (zFO .i64 ((pvs 47 ps).length:Int) 1 (((pvs 47 ps).length:Int) - 1) iiz iiz (by simp only [zVQ];exact wZ _ oP oP))<|oc (zHZ (((pvs 47 ps).length:Int) - 1) 0 iiz iiz)<|oc zC<|zD) fun a w12 s=> ?_
   refine zA rfl ?_
   refine zVG ?_
   refine zBp (fun k=>k<=ps.length - 1/\ ∀j,j<k->zJk R Ts ps j=false) (fun k=> [(0, .u (UF.eq r)),(1, .u (UF.eq l)),(2, .u (UF.eq q)),(23, .u (uI (max (((pvs 47 ps).length:Int) - 1) 0))),(24, .u (uI ((k:Nat):Int)))]) (fun k=>(ps.length - 1) - k) (0:Nat) (⟨zVM _,fun j hj=>absurd hj (zVW _)⟩) (s.keepK _ (fmz ⟨mz4,fmz ⟨mz5,fmz ⟨mz6,fmz ⟨.head _,fmz ⟨mz1,fnz⟩⟩⟩⟩⟩)) fun k a w hx s=> ?_
   have hlz:(pvs 47 ps).length=ps.length:=by simp
   refine zVC ?_
   refine zB 1 ((25, .u (uB (decide ((k:Int)<max (((pvs 47 ps).length:Int) - 1) 0)))):: []) hmix s kI
    (oc (zT .i64 (k:Int) (max (((pvs 47 ps).length:Int) - 1) 0) (decide ((k:Int)<max (((pvs 47 ps).length:Int) - 1) 0)) iiz iiz rfl rfl)<|zD) fun a w13 s=> ?_
   refine zA rfl ?_
   refine zVC ?_
   refine StS.cond s (decide ((k:Int)<max (((pvs 47 ps).length:Int) - 1) 0)) iiz (fun e=> ?_) (fun e=> ?_)
   ·have hk:k+1<ps.length:=by have:=zVI e;rw [hlz] at this;omega
    refine zVF ?_
    refine zVC ?_
    refine zVG ?_
    refine zVC ?_
    refine zB 2 ((26, .Z (uI (k:Int)))::(7, .u (uI (k:Int))):: []) hmix s kI
     (oc zC<|oc zG<|zD) fun a w14 s=> ?_
    refine zA rfl ?_
    refine zVC ?_
    refine zB 13 ((27, .Z (UF.eq r))::(28, .Z (UF.eq l))::(29, .Z (UF.eq q))::(30, .Z (uI (k:Int)))::(31, .Y (fPV 47 (at_ ps k)))::(32, .Z (fPV 47 (at_ ps k)))::(33, .Z (UF.eq q))::(34, .Z (uI (k:Int)))::(35, .Z (uI ((k+1:Nat):Int)))::(36, .Y (fPV 47 (at_ ps (k+1))))::(37, .Z (fPV 47 (at_ ps (k+1))))::(38, .Z (uB (zEe R Ts (at_ ps k) (at_ ps (k+1)))))::(39, .u (uB (!(zEe R Ts (at_ ps k) (at_ ps (k+1)))))):: []) hmix s kI
     (oc zC<|oc zC<|oc zC<|oc zC<|oc (yX (z:=6) (Cs:=pvs 47 ps) (i:=k) (C:=CU.agg (fPV 47 (at_ ps k))) kI (jU (show k<ps.length by omega)) (fun v W hb h=>(yJ hq_ h (s.up hb))) iiz)<|oc (zJ (f:=fPV 47 (at_ ps k)) 6 kI (hz:=z4 _ _))<|oc zC<|oc zC<|oc (qA .i64 (k:Int) 1 ((k+1:Nat):Int) iiz iiz (wrap64 _ _ oP oP))<|oc (yX (z:=6) (Cs:=pvs 47 ps) (i:=(k+1)) (C:=CU.agg (fPV 47 (at_ ps (k+1)))) kI (jU (show k+1<ps.length by omega)) (fun v W hb h=>(yJ hq_ h (s.up hb))) iiz)<|oc (zJ (f:=fPV 47 (at_ ps (k+1))) 6 kI (hz:=z4 _ _))<|oc (zBh zE zIg (fun u0 u1 u2 u3 W hb (h0:u0=r) (h1:u1=l) (h2:(fPV 47 (at_ ps k)).p u2 W) (h3:(fPV 47 (at_ ps (k+1))).p u3 W)=>zEV (yJ hr_ h0 (s.up hb)) (yJ ht h1 (s.up hb)) h2 h3 hn hnt (hT.below (s.up hb))))<|oc (zAr (zEe R Ts (at_ ps k) (at_ ps (k+1))) iiz (fun _=>rfl))<|zD) fun a w15 s=> ?_
    refine zA rfl ?_
    refine StS.cond s (!(zEe R Ts (at_ ps k) (at_ ps (k+1)))) iiz (fun e=> ?_) (fun e=> ?_)
    ·refine zVC ?_
     refine zB 2 ((40, .Z (uI (k:Int)))::(6, .u (uI (k:Int))):: []) hmix s kI
      (oc zC<|oc zG<|zD) fun a w16 s=> ?_
     refine zA rfl ?_
     refine zVD ?_
     exact wH s (t:=6) rfl (fun v W h=>by rw [zEj hnn,zLW (k:=k) oP hx.2 e];exact h)
    ·refine zVF ?_
     refine yF 1 ((41, .u (uI ((k+1:Nat):Int))):: []) s kI
      (oc (qA .i64 (k:Int) 1 ((k+1:Nat):Int) iiz iiz (wrap64 _ _ oP oP))<|zD) fun a w17 s=> ?_
     replace s:=s.drop [24]
     refine zCt (uI ((k+1:Nat):Int)) rfl s kI zC kI fun a w s=> ?_
     refine zA rfl ?_
     exact ⟨k+1,⟨by omega,fun j hj=>by rcases zVR (zVU hj) with h|h;exact hx.2 j h;rw [h];exact e⟩,(by show ps.length - 1 - (k+1)<ps.length - 1 - k;omega),s.keepK _ (fmz ⟨mz5,fmz ⟨mz6,fmz ⟨mz7,fmz ⟨mz8,fmz ⟨.head _,fnz⟩⟩⟩⟩⟩)⟩
   ·have hk:k=ps.length - 1:=by have h7:=zVJ e;have h8:=hx.1;rw [hlz] at h7;omega
    refine zVL ?_
    refine zVC ?_
    refine zB 1 ((6, .u (uI (-1))):: []) hmix s kI
     (oc zG<|zD) fun a w18 s=> ?_
    refine zA rfl ?_
    refine zVD ?_
    exact wH s (t:=6) rfl (fun v W h=>by rw [zEj hnn,zG6 (fun j hj=>hx.2 j oP)];exact h)
theorem zOd {W:Wp} {r l q:Wq} {R:List V2} {Ts:List V6} {ps:List V2} (hr_:(SF.row 6 (pvs 5 R)).p r W) (ht:(SF.row 18 (trs 5 Ts)).p l W) (hq_:(SF.row 6 (pvs 47 ps)).p q W) (hn:R.length<=1000000) (hnt:Ts.length<=1000000) (hnq:ps.length<=1000000) (hT:Tab W):Calls prog 17 #[r,l,q] W (Ret W (fB (decide (zCl R Ts ps<0))).tS):=by
 refine yE [(UF.eq r).tS,(UF.eq l).tS,(UF.eq q).tS] func17 rfl kI ⟨rfl,rfl,rfl,trivial⟩ fun a s=> ?_
 replace s:=s.renew [(0, .u (UF.eq r)),(1, .u (UF.eq l)),(2, .u (UF.eq q))] (fmz ⟨.inr ⟨_,rfl, .head _⟩,fmz ⟨.inr ⟨_,rfl,mz1⟩,fmz ⟨.inr ⟨_,rfl,mz2⟩,fnz⟩⟩⟩)
 refine zVC ?_
 refine zB 1 ((6, .u (uB false)):: []) hmix s kI
  (oc zG<|zD) fun a w1 s=> ?_
 refine zA rfl ?_
 refine zVC ?_
 replace s:=s.drop [6]
 refine zB 6 ((7, .Z (UF.eq r))::(8, .Z (UF.eq l))::(9, .Z (UF.eq q))::(10, .Z (uI (zCl R Ts ps)))::(11, .Z (uB (decide (zCl R Ts ps<0))))::(6, .u (uB (decide (zCl R Ts ps<0)))):: []) hmix s kI
  (oc zC<|oc zC<|oc zC<|oc (zCA zE zR4 (fun u0 u1 u2 W hb (h0:u0=r) (h1:u1=l) (h2:u2=q)=>zJg (yJ hr_ h0 (s.up hb)) (yJ ht h1 (s.up hb)) (yJ hq_ h2 (s.up hb)) hn hnt hnq (hT.below (s.up hb))))<|oc (zT .i64 (zCl R Ts ps) 0 (decide (zCl R Ts ps<0)) iiz iiz rfl rfl)<|oc zG<|zD) fun a w2 s=> ?_
 refine zA rfl ?_
 refine zVD ?_
 exact wH s (t:=6) rfl (fun v W h=>h)
theorem zPl {W:Wp} {u v:Wq} {x y:Rat} (h1:RVp 47 x u W) (h2:RVp 47 y v W) (hT:Tab W):Calls prog 75 #[u,v] W (Ret W (fQN (zBo x y)).tS):=by
 refine yE [(fRV 47 x).tS,(fRV 47 y).tS] func75 rfl kI ⟨h1,h2,trivial⟩ fun a s=> ?_
 refine zVC ?_
 refine zB 0 [] hmix s kI
  zD fun a w1 s=> ?_
 refine yV (CU.agg (fRV 47 x)) rfl s kI (fun v W h=>zAu h) fun b2 a w s=> ?_
 refine yV (CU.agg (fRV 47 y)) rfl s kI (fun v W h=>zAu h) fun b3 a w s=> ?_
 refine zW (CU.len 3) (cs:=zR3) kI rfl s kI (fun W=>rfl) rfl fun b4 a w s=> ?_
 refine zA rfl ?_
 refine zVC ?_
 refine zVC ?_
 refine zB 4 ((5, .Z (fRV 47 x))::(6, .Z (fRV 47 y))::(7, .Z (uI (qsg x y)))::(8, .u (uB (decide (qsg x y<0)))):: []) hmix s kI
  (oc (zJ (f:=fRV 47 x) 3 kI (hz:=yQ _ _))<|oc (zJ (f:=fRV 47 y) 3 kI (hz:=yQ _ _))<|oc (zL zE zGc (fun u0 u1 W hb (h0:RVp 47 x u0 W) (h1:RVp 47 y u1 W)=>zC8 (m:=47) h0 h1 dB dB (hT.below (s.up hb))))<|oc (zT .i64 (qsg x y) 0 (decide (qsg x y<0)) iiz iiz rfl rfl)<|zD) fun a w2 s=> ?_
 refine zA rfl ?_
 refine StS.cond s (decide (qsg x y<0)) iiz (fun e=> ?_) (fun e=> ?_)
 ·have e0:=e
  refine zB 2 ((9, .u (fRV 47 y))::(10, .u (fRV 47 x)):: []) hmix s kI
   (oc (zJ (f:=fRV 47 y) 3 kI (hz:=yQ _ _))<|oc (zJ (f:=fRV 47 x) 3 kI (hz:=yQ _ _))<|zD) fun a w3 s=> ?_
  refine zN (CU.agg (fRV 47 y)) ((fRV 47 y).tS) rfl s kI rfl rfl rfl (yQ _ _) iiz zBg fun a w s=> ?_
  refine zN (CU.agg (fRV 47 x)) ((fRV 47 x).tS) rfl s kI rfl rfl rfl (yQ _ _) iiz zBg fun a w s=> ?_
  refine zA rfl ?_
  refine zVC ?_
  refine zB 3 ((11, .Z (fRV 47 y))::(12, .Z (fRV 47 x))::(13, .u (fQN (y - x))):: []) hmix s kI
   (oc (zJ (f:=fRV 47 y) 3 kI (hz:=yQ _ _))<|oc (zJ (f:=fRV 47 x) 3 kI (hz:=yQ _ _))<|oc (zL zE zL8 (fun u0 u1 W hb (h0:RVp 47 y u0 W) (h1:RVp 47 x u1 W)=>zE9 (m:=47) h0 h1 dB dB (hT.below (s.up hb))))<|zD) fun a w4 s=> ?_
  refine zN (CU.agg (fQN (y - x))) ((fQN (y - x)).tS) rfl s kI rfl rfl rfl iiz iiz zY fun a w s=> ?_
  refine zA rfl ?_
  refine zVD ?_
  exact wJ s (CU.agg (fQN (y - x))) rfl kI rfl rfl (y5 _) (fun cs W h=>by rw [show zBo x y=y - x from if_pos e0];exact h)
 ·have e0:=e
  refine zVF ?_
  refine zVC ?_
  refine zB 3 ((11, .Z (fRV 47 x))::(12, .Z (fRV 47 y))::(13, .u (fQN (x - y))):: []) hmix s kI
   (oc (zJ (f:=fRV 47 x) 3 kI (hz:=yQ _ _))<|oc (zJ (f:=fRV 47 y) 3 kI (hz:=yQ _ _))<|oc (zL zE zL8 (fun u0 u1 W hb (h0:RVp 47 x u0 W) (h1:RVp 47 y u1 W)=>zE9 (m:=47) h0 h1 dB dB (hT.below (s.up hb))))<|zD) fun a w5 s=> ?_
  refine zN (CU.agg (fQN (x - y))) ((fQN (x - y)).tS) rfl s kI rfl rfl rfl iiz iiz zY fun a w s=> ?_
  refine zA rfl ?_
  refine zVD ?_
  exact wJ s (CU.agg (fQN (x - y))) rfl kI rfl rfl (y5 _) (fun cs W h=>by rw [show zBo x y=x - y from if_neg (by rw [e0];decide)];exact h)
theorem zRS (W:Wp):(SF.fn prog (T2 47 zBo)).p (.func (.func 75) #[] #[]) W:=
 zFj (enters_of func75 kI rfl) (fun W' _ args R ⟨u,v,p,q,e,h1,h2,hT,hR⟩=>by subst e hR;simpa using zPl h1 h2 hT)
theorem zQZ {W:Wp} {u v:Wq} {p q:V2} (h1:(fPV 47 p).p u W) (h2:(fPV 47 q).p v W) (hT:Tab W):Calls prog 46 #[u,v] W (Ret W (fQN (zJJ p q)).tS):=by
 have hp:=zA8 dB h1
 have hq:=zA8 dB h2
 have hd1:QB (zBo p.1 q.1) 95:=(zGl hp.1 hq.1).mono dB
 have hd2:QB (zBo p.2 q.2) 95:=(zGl hp.2 hq.2).mono dB
 refine yE [(fPV 47 p).tS,(fPV 47 q).tS] func46 rfl kI ⟨h1,h2,trivial⟩ fun a s=> ?_
 refine zVC ?_
 refine zB 0 [] hmix s kI
  zD fun a w1 s=> ?_
 refine yV (CU.agg (fPV 47 p)) rfl s kI (fun v W h=>q8 h) fun b2 a w s=> ?_
 refine yV (CU.agg (fPV 47 q)) rfl s kI (fun v W h=>q8 h) fun b3 a w s=> ?_
 refine zW (CU.len 3) (cs:=zR3) kI rfl s kI (fun W=>rfl) rfl fun b4 a w s=> ?_
 refine zA rfl ?_
 refine zVC ?_
 have so:=s.old;have sg:=s.gr
 refine zAg (fun i=> [].contains i) [⟨4,5,31, [.bool false, .slice none 0 0, .slice none 0 0, .bool false, .slice none 0 0, .slice none 0 0],wF w 31 (CU.len 6)⟩] 5 ((6, .s (SF.fn prog (T3 47 zBo)))::(7, .Z (fPV 47 p))::(8, .Z (fPV 47 q))::(9, .u (fPN (zBo p.1 q.1,zBo p.2 q.2)))::(5, .s (wF w 31 (CU.len 6))):: []) hmix s (fmz ⟨⟨by show 4<5;decide,mz4,⟨_,_,_,rfl⟩,by kernel_rfl,jE (fun _=>rfl) rfl⟩,fnz⟩) kI
  (oc (zH zE zQD (fun u0 W hb h0=>by rw [show u0=_ from h0];exact zHU (zRS W)))<|oc (zJ (f:=fPV 47 p) 6 kI (hz:=z4 _ _))<|oc (zJ (f:=fPV 47 q) 6 kI (hz:=z4 _ _))<|oc (zLj (T3 47 zBo) zE iiz (fun u v W hb (h1:(fPV 47 p).p u W) (h2:(fPV 47 q).p v W)=>⟨u,v,p,q,rfl,h1,h2,hT.below (s.up hb),rfl⟩))<|oc (zAz (cs:=zP6) kI (jE (fun _=>rfl) rfl))<|zD) fun Q' hQ a w2 s hr hd=> ?_
 obtain ⟨b5,hB5,e5,s⟩:=s.adoptA false 5 (hr (_,_) mz4) sg (fun y hy=> .inl (so y hy))
 refine zN (CU.agg (fPN (zBo p.1 q.1,zBo p.2 q.2))) ((fPN (zBo p.1 q.1,zBo p.2 q.2)).tS) rfl s kI rfl rfl rfl iiz iiz qZ fun a w s=> ?_
 refine zA rfl (hQ _ _ ?_)
 refine zVC ?_
 refine zB 6 ((10, .X (fPN (zBo p.1 q.1,zBo p.2 q.2)) 0)::(11, .Z (fQN ((zBo p.1 q.1,zBo p.2 q.2).1)))::(12, .X (fPN (zBo p.1 q.1,zBo p.2 q.2)) 3)::(13, .Z (fQN ((zBo p.1 q.1,zBo p.2 q.2).2)))::(14, .s (fQS 95 [(zBo p.1 q.1,zBo p.2 q.2).1,(zBo p.1 q.1,zBo p.2 q.2).2]))::(15, .u (fQN (zJJ p q))):: []) hmix s kI
  (oc (zR (C:=cg (fPN (zBo p.1 q.1,zBo p.2 q.2))) 0 kI)<|oc (yG (C:=cg (fPN (zBo p.1 q.1,zBo p.2 q.2))) (k:=0) 3 kI (h:=zHq))<|oc (zR (C:=cg (fPN (zBo p.1 q.1,zBo p.2 q.2))) 3 kI)<|oc (yG (C:=cg (fPN (zBo p.1 q.1,zBo p.2 q.2))) (k:=3) 3 kI (h:=zHp))<|oc (yM (fun u v W (hu:QNp ((zBo p.1 q.1,zBo p.2 q.2).1) u W) (hv:QNp ((zBo p.1 q.1,zBo p.2 q.2).2) v W)=>zCO (m:=95) (wG hu hd1) (wG hv hd2)))<|oc (zH zE zN1 (fun u0 W hb (h0:(fQS 95 [(zBo p.1 q.1,zBo p.2 q.2).1,(zBo p.1 q.1,zBo p.2 q.2).2]).p u0 W)=>zEB (m:=95) (p:=zBo p.1 q.1) (q:=zBo p.2 q.2) h0 hd1 hd2 dB (hT.below (s.up hb))))<|zD) fun a w3 s=> ?_
 refine zN (CU.agg (fQN (zJJ p q))) ((fQN (zJJ p q)).tS) rfl s kI rfl rfl rfl iiz iiz zY fun a w s=> ?_
 refine zA rfl ?_
 refine zVD ?_
 exact wJ s (CU.agg (fQN (zJJ p q))) rfl kI rfl rfl (y5 _) (fun cs W h=>h)
theorem zSp {W:Wp} {q:Wq} {ps:List V2} (hq_:(SF.row 6 (pvs 47 ps)).p q W) (hnq:ps.length<=3) (hT:Tab W):Calls prog 19 #[q] W (Ret W (fQN (zEd ps (ps.length - 1))).tS):=by
 have hqb:=zFd dB hq_
 refine yE [(UF.eq q).tS] func19 rfl kI ⟨rfl,trivial⟩ fun a s=> ?_
 replace s:=s.renew [(0, .u (UF.eq q))] (fmz ⟨.inr ⟨_,rfl, .head _⟩,fnz⟩)
 refine zVC ?_
 refine zB 0 [] hmix s kI
  zD fun a w1 s=> ?_
 refine zW (CU.len 3) (cs:=zR3) kI rfl s kI (fun W=>rfl) rfl fun b2 a w s=> ?_
 refine zA rfl ?_
 refine zVC ?_
 refine zB 1 ((5, .u (fQN ((0:Int):Rat))):: []) hmix s kI
  (oc (zH zE zHb (fun u0 W hb (h0:u0= .int .i64 0)=>zHG _ h0 dB))<|zD) fun a w2 s=> ?_
 refine zW (CU.len 3) (cs:=zR3) kI rfl s kI (fun W=>rfl) rfl fun b3 a w s=> ?_
 refine zN (CU.agg (fQN (zEd ps 0))) ((fQN (zEd ps 0)).tS) rfl s kI rfl rfl rfl iiz iiz zY fun a w s=> ?_
 refine zA rfl ?_
 refine zVC ?_
 refine zVC ?_
 refine zB 5 ((6, .Z (UF.eq q))::(7, .Z (uI ((pvs 47 ps).length:Int)))::(8, .Z (uI (((pvs 47 ps).length:Int) - 1)))::(9, .u (uI (max (((pvs 47 ps).length:Int) - 1) 0)))::(10, .u (uI 0)):: []) hmix s kI
  (oc zC<|oc (yZ (z:=6) (Cs:=pvs 47 ps) kI (fun v W hb h=>(yJ hq_ h (s.up hb))) (fun _=>rfl))<|oc (zFO .i64 ((pvs 47 ps).length:Int) 1 (((pvs 47 ps).length:Int) - 1) iiz iiz (by simp only [zVQ];exact wZ _ oP oP))<|oc (zHZ (((pvs 47 ps).length:Int) - 1) 0 iiz iiz)<|oc zC<|zD) fun a w3 s=> ?_
 refine zA rfl ?_
 refine zVG ?_
 refine zEt 3 (fun k=>CU.agg (fQN (zEd ps k))) (fun k=>k<=ps.length - 1) (fun k=> [(0, .u (UF.eq q)),(9, .u (uI (max (((pvs 47 ps).length:Int) - 1) 0))),(10, .u (uI ((k:Nat):Int)))]) (fun k=>(ps.length - 1) - k) (0:Nat) (zVM _) (s.keepK _ (fmz ⟨mz3,fmz ⟨.head _,fmz ⟨mz1,fnz⟩⟩⟩)) rfl fun k a w hx s=> ?_
 have hlz:(pvs 47 ps).length=ps.length:=by simp
 refine zVC ?_
 refine zB 1 ((11, .u (uB (decide ((k:Int)<max (((pvs 47 ps).length:Int) - 1) 0)))):: []) hmix s kI
  (oc (zT .i64 (k:Int) (max (((pvs 47 ps).length:Int) - 1) 0) (decide ((k:Int)<max (((pvs 47 ps).length:Int) - 1) 0)) iiz iiz rfl rfl)<|zD) fun a w4 s=> ?_
 refine zA rfl ?_
 refine zVC ?_
 refine StS.cond s (decide ((k:Int)<max (((pvs 47 ps).length:Int) - 1) 0)) iiz (fun e=> ?_) (fun e=> ?_)
 ·have hk:k+1<ps.length:=by have:=zVI e;rw [hlz] at this;omega
  have hlq:=zLE hqb k oP oP
  have hfq:QB (zJJ (at_ ps k) (at_ ps (k+1))) 400:=(zGa (hqb _ (jO (show k<ps.length by omega))) (hqb _ (jO hk))).mono dB
  refine zVF ?_
  refine zVC ?_
  refine zVG ?_
  refine zVC ?_
  refine zB 2 ((12, .Z (uI (k:Int)))::(4, .u (uI (k:Int))):: []) hmix s kI
   (oc zC<|oc zG<|zD) fun a w5 s=> ?_
  refine zA rfl ?_
  refine yT [1,2,5,6] 13 ((13, .Z (fQN (zEd ps k)))::(14, .Z (UF.eq q))::(15, .Z (uI (k:Int)))::(16, .Y (fPV 47 (at_ ps k)))::(17, .Z (fPV 47 (at_ ps k)))::(18, .Z (UF.eq q))::(19, .Z (uI (k:Int)))::(20, .Z (uI ((k+1:Nat):Int)))::(21, .Y (fPV 47 (at_ ps (k+1))))::(22, .Z (fPV 47 (at_ ps (k+1))))::(23, .Z (fQN (zJJ (at_ ps k) (at_ ps (k+1)))))::(24, .s (fQS 400 [(zEd ps k),(zJJ (at_ ps k) (at_ ps (k+1)))]))::(25, .u (fQN (zEd ps (k+1)))):: []) hmix s kI
   (oc (zJ (f:=fQN (zEd ps k)) 3 kI (hz:=y5 _))<|oc zC<|oc zC<|oc (yX (z:=6) (Cs:=pvs 47 ps) (i:=k) (C:=CU.agg (fPV 47 (at_ ps k))) kI (jU (show k<ps.length by omega)) (fun v W hb h=>(yJ hq_ h (s.up hb))) iiz)<|oc (zJ (f:=fPV 47 (at_ ps k)) 6 kI (hz:=z4 _ _))<|oc zC<|oc zC<|oc (qA .i64 (k:Int) 1 ((k+1:Nat):Int) iiz iiz (wrap64 _ _ oP oP))<|oc (yX (z:=6) (Cs:=pvs 47 ps) (i:=(k+1)) (C:=CU.agg (fPV 47 (at_ ps (k+1)))) kI (jU (show k+1<ps.length by omega)) (fun v W hb h=>(yJ hq_ h (s.up hb))) iiz)<|oc (zJ (f:=fPV 47 (at_ ps (k+1))) 6 kI (hz:=z4 _ _))<|oc (zL zE zTz (fun u0 u1 W hb (h0:(fPV 47 (at_ ps k)).p u0 W) (h1:(fPV 47 (at_ ps (k+1))).p u1 W)=>zQZ (p:=at_ ps k) (q:=at_ ps (k+1)) h0 h1 (hT.below (s.up hb))))<|oc (yM (fun u v W (hu:QNp (zEd ps k) u W) (hv:QNp (zJJ (at_ ps k) (at_ ps (k+1))) v W)=>zCO (m:=400) (wG hu hlq) (wG hv hfq)))<|oc (zH zE zN1 (fun u0 W hb (h0:(fQS 400 [(zEd ps k),(zJJ (at_ ps k) (at_ ps (k+1)))]).p u0 W)=>zEB (m:=400) (p:=zEd ps k) (q:=zJJ (at_ ps k) (at_ ps (k+1))) h0 hlq hfq dB (hT.below (s.up hb))))<|zD) fun Q' hQ a w6 s=> ?_
  refine zN (CU.agg (fQN (zEd ps (k+1)))) ((fQN (zEd ps (k+1))).tS) rfl s kI rfl rfl rfl (y5 _) iiz zY fun a w s=> ?_
  refine zA rfl (hQ _ _ ?_)
  refine yF 1 ((26, .u (uI ((k+1:Nat):Int))):: []) s kI
   (oc (qA .i64 (k:Int) 1 ((k+1:Nat):Int) iiz iiz (wrap64 _ _ oP oP))<|zD) fun a w7 s=> ?_
  replace s:=s.drop [10]
  refine zCt (uI ((k+1:Nat):Int)) rfl s kI zC kI fun a w s=> ?_
  refine zA rfl ?_
  exact ⟨k+1,oP,(by show ps.length - 1 - (k+1)<ps.length - 1 - k;omega),s.keepK _ (fmz ⟨mz5,fmz ⟨mz6,fmz ⟨.head _,fnz⟩⟩⟩)⟩
 ·have hkN:k=ps.length - 1:=by have h7:=zVJ e;rw [hlz] at h7;omega
  subst hkN
  refine zVL ?_
  refine zVC ?_
  refine zB 1 ((27, .u (fQN (zEd ps (ps.length - 1)))):: []) hmix s kI
   (oc (zJ (f:=fQN (zEd ps (ps.length - 1))) 3 kI (hz:=y5 _))<|zD) fun a w8 s=> ?_
  refine zN (CU.agg (fQN (zEd ps (ps.length - 1)))) ((fQN (zEd ps (ps.length - 1))).tS) rfl s kI rfl rfl rfl iiz iiz zY fun a w s=> ?_
  refine zA rfl ?_
  refine zVD ?_
  exact wJ s (CU.agg (fQN (zEd ps (ps.length - 1)))) rfl kI rfl rfl (y5 _) (fun cs W h=>h)
end Go.Proofs.Wd

namespace Go.Proofs.Wd
open Tryz
set_option maxRecDepth 100000
set_option maxHeartbeats 1000000
open Go.RowKit Lb
theorem zPk {W:Wp} {u v:Wq} {p q:V2} (h1:(fPV 47 p).p u W) (h2:(fPV 47 q).p v W) (hT:Tab W):Calls prog 56 #[u,v] W (Ret W (fB (zET p q==0)).tS):=by
 refine yE [(fPV 47 p).tS,(fPV 47 q).tS] func56 rfl kI ⟨h1,h2,trivial⟩ fun a s=> ?_
 refine zVC ?_
 refine zB 0 [] hmix s kI
  zD fun a w1 s=> ?_
 refine yV (CU.agg (fPV 47 p)) rfl s kI (fun v W h=>q8 h) fun b2 a w s=> ?_
 refine yV (CU.agg (fPV 47 q)) rfl s kI (fun v W h=>q8 h) fun b3 a w s=> ?_
 refine y8 (uB false) rfl s kI iiz fun a w s=> ?_
 refine zA rfl ?_
 refine zVC ?_
 replace s:=s.drop [4]
 refine zB 5 ((5, .Z (fPV 47 p))::(6, .Z (fPV 47 q))::(7, .Z (uI (zET p q)))::(8, .Z (uB (zET p q==0)))::(4, .u (uB (zET p q==0))):: []) hmix s kI
  (oc (zJ (f:=fPV 47 p) 6 kI (hz:=z4 _ _))<|oc (zJ (f:=fPV 47 q) 6 kI (hz:=z4 _ _))<|oc (zL zE zTj (fun u0 u1 W hb (h0:(fPV 47 p).p u0 W) (h1:(fPV 47 q).p u1 W)=>zQ0 (m:=47) h0 h1 dB dB (hT.below (s.up hb))))<|oc (zT .i64 (zET p q) 0 (zET p q==0) iiz iiz rfl rfl)<|oc zG<|zD) fun a w2 s=> ?_
 refine zA rfl ?_
 refine zVD ?_
 exact wH s (t:=4) rfl (fun v W h=>h)
theorem zN9 {W:Wp} {l:Wq} {ps:List V2} (hl:(SF.row 6 (pvs 47 ps)).p l W) (hn:ps.length<=1000000) (hT:Tab W):Calls prog 35 #[l] W (Ret W (wL W 31 6 (pvs 47 (plV ps ps.length)))):=by
 refine yE [(UF.eq l).tS] func35 rfl kI ⟨rfl,trivial⟩ fun a s=> ?_
 replace s:=s.renew [(0, .u (UF.eq l))] (fmz ⟨.inr ⟨_,rfl, .head _⟩,fnz⟩)
 refine zVC ?_
 refine zB 1 ((2, .u (UF.eq (.slice none 0 0))):: []) hmix s kI
  (oc zG<|zD) fun a w1 s=> ?_
 refine zA rfl ?_
 refine zVC ?_
 refine zVC ?_
 refine zB 3 ((5, .u (UF.eq l))::(6, .u (uI ((pvs 47 ps).length:Int)))::(7, .u (uI 0)):: []) hmix s kI
  (oc zC<|oc (yZ (z:=6) (Cs:=pvs 47 ps) kI (fun v W hb h=>(yJ hl h (s.up hb))) (fun _=>rfl))<|oc zC<|zD) fun a w2 s=> ?_
 refine zA rfl ?_
 refine zVG ?_
 obtain ⟨base,hbase⟩: ∃b,b=w2.heap.size:=⟨_,rfl⟩
 have hbb:=s.gr.size
 have hb0':_<=base:=hbase▸hbb
 have hsz0:base<=w2.heap.size:=by rw [hbase];exact Nat.le_refl _
 refine zFy (fun (q:Nat×Wq) w=>q.1<=ps.length/\base<=w.heap.size/\zBJ w base 31 6 q.2 (pvs 47 (plV ps q.1))) (fun q=> [(0, .u (UF.eq l)),(5, .u (UF.eq l)),(6, .u (uI ((pvs 47 ps).length:Int))),(2, .u (UF.eq (q.2))),(7, .u (uI (q.1:Int)))]) (fun q=>ps.length - q.1) (0, .slice none 0 0) (⟨zVM _,hsz0,zBJ.nil _ _ _ _⟩) (s.keepK _ (fmz ⟨mz4,fmz ⟨.head _,fmz ⟨mz1,fmz ⟨mz3,fmz ⟨mz2,fnz⟩⟩⟩⟩⟩)) fun q a w hI s=> ?_
 have s0:=s
 have hlw:=(SF.row 6 (pvs 47 ps)).st _ _ _ hl s0.below
 have hT0:=hT
 have hT:=hT0.below s0.below
 replace s:=s.reb rfl [(0, .u (UF.eq l)),(5, .u (UF.eq l)),(6, .u (uI ((pvs 47 ps).length:Int))),(2, .u (UF.eq (q.2))),(7, .u (uI (q.1:Int)))] (fmz ⟨.inl (.head _),fmz ⟨.inl mz1,fmz ⟨.inl mz2,fmz ⟨.inl mz3,fmz ⟨.inl mz4,fnz⟩⟩⟩⟩⟩)
 refine zVC ?_
 refine zB 1 ((8, .u (uB (decide ((q.1:Int)<((pvs 47 ps).length:Int))))):: []) hmix s kI
  (oc (zT .i64 (q.1:Int) ((pvs 47 ps).length:Int) (decide ((q.1:Int)<((pvs 47 ps).length:Int))) iiz iiz rfl rfl)<|zD) fun a w3 s=> ?_
 refine zA rfl ?_
 refine zVC ?_
 refine StS.cond s (decide ((q.1:Int)<((pvs 47 ps).length:Int))) iiz (fun e=> ?_) (fun e=> ?_)
 ·have hk:q.1<ps.length:=by have:=zVI e;simp at this;omega
  refine zVF ?_
  refine zVC ?_
  refine zVG ?_
  refine zVC ?_
  refine zB 3 ((9, .u (uI (q.1:Int)))::(10, .Y (fPV 47 (at_ ps q.1)))::(11, .u (fPV 47 (at_ ps q.1))):: []) hmix s kI
   (oc zC<|oc (yX (z:=6) (Cs:=pvs 47 ps) (i:=q.1) (C:=CU.agg (fPV 47 (at_ ps q.1))) kI (jU hk) (fun v W hb h=>(yJ hlw h (s.up hb))) iiz)<|oc (zJ (f:=fPV 47 (at_ ps q.1)) 6 kI (hz:=z4 _ _))<|zD) fun a w4 s=> ?_
  refine zW (CU.len 6) (cs:=zP6) kI rfl s kI (fun W=>rfl) rfl fun b4 a w s=> ?_
  refine y8 (uI (q.1:Int)) rfl s kI iiz fun a w s=> ?_
  refine zN (CU.agg (fPV 47 (at_ ps q.1))) ((fPV 47 (at_ ps q.1)).tS) rfl s kI rfl rfl rfl iiz iiz qZ fun a w s=> ?_
  refine zA rfl ?_
  refine zVC ?_
  rcases Nat.eq_zero_or_pos q.1 with hq0|hq1
  ·refine zB 12 ((12, .Z (uI (q.1:Int)))::(13, .Z (uB true))::(14, .Z (uB true))::(23, .u (uB true)):: []) hmix s kI
    (oc zC<|oc (zT .i64 (q.1:Int) 0 true iiz iiz (zVY.2 oP) rfl)<|oc zC<|oc (zF 14 true kI iiz (fun e=>by cases e) (fun _ _=>trivial))<|oc (zF 14 true kI iiz (fun e=>by cases e) (fun _ _=>trivial))<|oc (zF 14 true kI iiz (fun e=>by cases e) (fun _ _=>trivial))<|oc (zF 14 true kI iiz (fun e=>by cases e) (fun _ _=>trivial))<|oc (zF 14 true kI iiz (fun e=>by cases e) (fun _ _=>trivial))<|oc (zF 14 true kI iiz (fun e=>by cases e) (fun _ _=>trivial))<|oc (zF 14 true kI iiz (fun e=>by cases e) (fun _ _=>trivial))<|oc (zF 14 true kI iiz (fun e=>by cases e) (fun _ _=>trivial))<|oc (yC true iiz fN (fun e=>by cases e))<|zD) fun a w5 s=> ?_
   refine zA rfl ?_
   refine StS.cond s true iiz (fun e=> ?_) (fun e=>by cases e)
   refine zCP 3 ((24, .u (UF.eq (q.2)))::(25, .Z (fPV 47 (at_ ps q.1)))::(26, .s (SF.row 6 [CU.agg (fPV 47 (at_ ps q.1))])):: []) s kI
    (oc zC<|oc (zJ (f:=fPV 47 (at_ ps q.1)) 6 kI (hz:=z4 _ _))<|oc (zAP (fun u W (hu:(fPV 47 (at_ ps q.1)).p u W)=>zID hu))<|zD) fun a w6 s hr=> ?_
   refine zKh ([CU.agg (fPV 47 (at_ ps q.1))]) s0 (s.keepK [(24, .u (UF.eq (q.2))),(23, .u (uB true)),(3, .u (uI (q.1:Int))),(9, .u (uI (q.1:Int))),(11, .u (fPV 47 (at_ ps q.1))),(8, .u (uB (decide ((q.1:Int)<((pvs 47 ps).length:Int))))),(0, .u (UF.eq l)),(5, .u (UF.eq l)),(6, .u (uI ((pvs 47 ps).length:Int))),(2, .u (UF.eq (q.2))),(7, .u (uI (q.1:Int)))] (fmz ⟨.head _,fmz ⟨mz1,fmz ⟨mz2,fmz ⟨mz3,fmz ⟨mz4,fmz ⟨mz5,fmz ⟨mz6,fmz ⟨mz7,fmz ⟨mz8,fmz ⟨mz9,fmz ⟨zEb,fnz⟩⟩⟩⟩⟩⟩⟩⟩⟩⟩⟩)) hb0' hI.2 rfl kI kI kI (s.fct (.tmp 24)) (hr (_,_) mz2) (zIT _ _) (by have:=zHT ps q.1;simp;omega) (fun x hx hr=>by rcases zVE.1 hx with rfl|hx;cases hr;cases hx) fun v' a w hI' s=> ?_
   have s1:=s
   replace s:StS _ _ _ [⟨4,31,CU.agg (fPV 47 (at_ ps q.1)),b4,true⟩] _ _ _ _:=s.freeze
   replace s:=s.reb rfl [(27, .u (UF.eq v')),(24, .u (UF.eq (q.2))),(23, .u (uB true)),(3, .u (uI (q.1:Int))),(9, .u (uI (q.1:Int))),(11, .u (fPV 47 (at_ ps q.1))),(8, .u (uB (decide ((q.1:Int)<((pvs 47 ps).length:Int))))),(0, .u (UF.eq l)),(5, .u (UF.eq l)),(6, .u (uI ((pvs 47 ps).length:Int))),(2, .u (UF.eq (q.2))),(7, .u (uI (q.1:Int)))] (fmz ⟨.inl (.head _),fmz ⟨.inl mz1,fmz ⟨.inl mz2,fmz ⟨.inl mz3,fmz ⟨.inl mz4,fmz ⟨.inl mz5,fmz ⟨.inl mz6,fmz ⟨.inl mz7,fmz ⟨.inl mz8,fmz ⟨.inl mz9,fmz ⟨.inl zEb,fmz ⟨.inl zLr,fnz⟩⟩⟩⟩⟩⟩⟩⟩⟩⟩⟩⟩)
   replace s:=s.drop [2]
   refine y8 (UF.eq v') rfl s kI iiz fun a w s=> ?_
   refine zA rfl ?_
   refine yF 1 ((28, .u (uI ((q.1+1:Nat):Int))):: []) s kI
    (oc (qA .i64 (q.1:Int) 1 ((q.1+1:Nat):Int) iiz iiz (wrap64 _ _ oP oP))<|zD) fun a w7 s=> ?_
   replace s:=s.drop [7]
   refine zCt (uI ((q.1+1:Nat):Int)) rfl s kI zC kI fun a w s=> ?_
   refine zA rfl ?_
   replace s:=s.popB
   have hbw:=s.below
   replace s:=s1.back (s.keepK [(7, .u (uI ((q.1+1:Nat):Int))),(28, .u (uI ((q.1+1:Nat):Int))),(2, .u (UF.eq v')),(27, .u (UF.eq v')),(24, .u (UF.eq (q.2))),(23, .u (uB true)),(3, .u (uI (q.1:Int))),(9, .u (uI (q.1:Int))),(11, .u (fPV 47 (at_ ps q.1))),(8, .u (uB (decide ((q.1:Int)<((pvs 47 ps).length:Int))))),(0, .u (UF.eq l)),(5, .u (UF.eq l)),(6, .u (uI ((pvs 47 ps).length:Int)))] (fmz ⟨.head _,fmz ⟨mz1,fmz ⟨mz2,fmz ⟨mz3,fmz ⟨mz4,fmz ⟨mz5,fmz ⟨mz6,fmz ⟨mz7,fmz ⟨mz8,fmz ⟨mz9,fmz ⟨zEb,fmz ⟨zLr,fmz ⟨zRH,fnz⟩⟩⟩⟩⟩⟩⟩⟩⟩⟩⟩⟩⟩)) rfl
   exact ⟨(q.1+1,v'),(by show ps.length - (q.1+1)<ps.length - q.1;omega),⟨hk,zVH hI'.1 hbw.size,by show zBJ _ _ _ _ _ (pvs 47 (plV ps (q.1+1)));rw [zRC (by simp [hq0]), <-zIP];exact hI'.2.below hbw⟩,s.keepK _ (fmz ⟨zEb,fmz ⟨zLr,fmz ⟨zRH,fmz ⟨mz2,fmz ⟨.head _,fnz⟩⟩⟩⟩⟩)⟩
  ·have hq0: ¬q.1=0:=by omega
   refine zB 12 ((12, .Z (uI (q.1:Int)))::(13, .Z (uB false))::(14, .Z (uB false))::(15, .Z (fPV 47 (at_ ps q.1)))::(16, .Z (UF.eq l))::(17, .Z (uI (q.1:Int)))::(18, .Z (uI ((q.1 - 1:Nat):Int)))::(19, .Y (fPV 47 (at_ ps (q.1 - 1))))::(20, .Z (fPV 47 (at_ ps (q.1 - 1))))::(21, .Z (uB (zET (at_ ps q.1) (at_ ps (q.1 - 1))==0)))::(22, .Z (uB (!(zET (at_ ps q.1) (at_ ps (q.1 - 1))==0))))::(23, .u (uB (!(zET (at_ ps q.1) (at_ ps (q.1 - 1))==0)))):: []) hmix s kI
    (oc zC<|oc (zT .i64 (q.1:Int) 0 false iiz iiz (zVZ.2 oP) rfl)<|oc zC<|oc (zF 14 false kI iiz (fun _=>zJ (f:=fPV 47 (at_ ps q.1)) 6 kI (hz:=z4 _ _)) arf)<|oc (zF 14 false kI iiz (fun _=>zC) arf)<|oc (zF 14 false kI iiz (fun _=>zC) arf)<|oc (zF 14 false kI iiz (fun _=>zFO .i64 (q.1:Int) 1 ((q.1 - 1:Nat):Int) iiz iiz (by rw [wZ _ oP oP];omega)) arf)<|oc (zF 14 false kI iiz (fun _=>yX (z:=6) (Cs:=pvs 47 ps) (i:=(q.1 - 1)) (C:=CU.agg (fPV 47 (at_ ps (q.1 - 1)))) kI (jU (show q.1 - 1<ps.length by omega)) (fun v W hb h=>(yJ hlw h (s.up hb))) iiz) arf)<|oc (zF 14 false kI iiz (fun _=>zJ (f:=fPV 47 (at_ ps (q.1 - 1))) 6 kI (hz:=z4 _ _)) arf)<|oc (zF 14 false kI iiz (fun _=>zL zE zTu (fun u0 u1 W hb (h0:(fPV 47 (at_ ps q.1)).p u0 W) (h1:(fPV 47 (at_ ps (q.1 - 1))).p u1 W)=>zPk h0 h1 (hT.below (s.up hb)))) arf)<|oc (zF 14 false kI iiz (fun _=>zAr (zET (at_ ps q.1) (at_ ps (q.1 - 1))==0) iiz (fun _=>rfl)) arf)<|oc (yC false iiz (fun e=>by cases e) fN)<|zD) fun a w8 s=> ?_
   refine zA rfl ?_
   refine StS.cond s (!(zET (at_ ps q.1) (at_ ps (q.1 - 1))==0)) iiz (fun e=> ?_) (fun e=> ?_)
   ·refine zCP 3 ((24, .u (UF.eq (q.2)))::(25, .Z (fPV 47 (at_ ps q.1)))::(26, .s (SF.row 6 [CU.agg (fPV 47 (at_ ps q.1))])):: []) s kI
     (oc zC<|oc (zJ (f:=fPV 47 (at_ ps q.1)) 6 kI (hz:=z4 _ _))<|oc (zAP (fun u W (hu:(fPV 47 (at_ ps q.1)).p u W)=>zID hu))<|zD) fun a w9 s hr=> ?_
    refine zKh ([CU.agg (fPV 47 (at_ ps q.1))]) s0 (s.keepK [(24, .u (UF.eq (q.2))),(23, .u (uB (!(zET (at_ ps q.1) (at_ ps (q.1 - 1))==0)))),(3, .u (uI (q.1:Int))),(9, .u (uI (q.1:Int))),(11, .u (fPV 47 (at_ ps q.1))),(8, .u (uB (decide ((q.1:Int)<((pvs 47 ps).length:Int))))),(0, .u (UF.eq l)),(5, .u (UF.eq l)),(6, .u (uI ((pvs 47 ps).length:Int))),(2, .u (UF.eq (q.2))),(7, .u (uI (q.1:Int)))] (fmz ⟨.head _,fmz ⟨mz1,fmz ⟨mz2,fmz ⟨mz3,fmz ⟨mz4,fmz ⟨mz5,fmz ⟨mz6,fmz ⟨mz7,fmz ⟨mz8,fmz ⟨mz9,fmz ⟨zEb,fnz⟩⟩⟩⟩⟩⟩⟩⟩⟩⟩⟩)) hb0' hI.2 rfl kI kI kI (s.fct (.tmp 24)) (hr (_,_) mz2) (zIT _ _) (by have:=zHT ps q.1;simp;omega) (fun x hx hr=>by rcases zVE.1 hx with rfl|hx;cases hr;cases hx) fun v' a w hI' s=> ?_
    have s1:=s
    replace s:StS _ _ _ [⟨4,31,CU.agg (fPV 47 (at_ ps q.1)),b4,true⟩] _ _ _ _:=s.freeze
    replace s:=s.reb rfl [(27, .u (UF.eq v')),(24, .u (UF.eq (q.2))),(23, .u (uB (!(zET (at_ ps q.1) (at_ ps (q.1 - 1))==0)))),(3, .u (uI (q.1:Int))),(9, .u (uI (q.1:Int))),(11, .u (fPV 47 (at_ ps q.1))),(8, .u (uB (decide ((q.1:Int)<((pvs 47 ps).length:Int))))),(0, .u (UF.eq l)),(5, .u (UF.eq l)),(6, .u (uI ((pvs 47 ps).length:Int))),(2, .u (UF.eq (q.2))),(7, .u (uI (q.1:Int)))] (fmz ⟨.inl (.head _),fmz ⟨.inl mz1,fmz ⟨.inl mz2,fmz ⟨.inl mz3,fmz ⟨.inl mz4,fmz ⟨.inl mz5,fmz ⟨.inl mz6,fmz ⟨.inl mz7,fmz ⟨.inl mz8,fmz ⟨.inl mz9,fmz ⟨.inl zEb,fmz ⟨.inl zLr,fnz⟩⟩⟩⟩⟩⟩⟩⟩⟩⟩⟩⟩)
    replace s:=s.drop [2]
    refine y8 (UF.eq v') rfl s kI iiz fun a w s=> ?_
    refine zA rfl ?_
    refine yF 1 ((28, .u (uI ((q.1+1:Nat):Int))):: []) s kI
     (oc (qA .i64 (q.1:Int) 1 ((q.1+1:Nat):Int) iiz iiz (wrap64 _ _ oP oP))<|zD) fun a w10 s=> ?_
    replace s:=s.drop [7]
    refine zCt (uI ((q.1+1:Nat):Int)) rfl s kI zC kI fun a w s=> ?_
    refine zA rfl ?_
    replace s:=s.popB
    have hbw:=s.below
    replace s:=s1.back (s.keepK [(7, .u (uI ((q.1+1:Nat):Int))),(28, .u (uI ((q.1+1:Nat):Int))),(2, .u (UF.eq v')),(27, .u (UF.eq v')),(24, .u (UF.eq (q.2))),(23, .u (uB (!(zET (at_ ps q.1) (at_ ps (q.1 - 1))==0)))),(3, .u (uI (q.1:Int))),(9, .u (uI (q.1:Int))),(11, .u (fPV 47 (at_ ps q.1))),(8, .u (uB (decide ((q.1:Int)<((pvs 47 ps).length:Int))))),(0, .u (UF.eq l)),(5, .u (UF.eq l)),(6, .u (uI ((pvs 47 ps).length:Int)))] (fmz ⟨.head _,fmz ⟨mz1,fmz ⟨mz2,fmz ⟨mz3,fmz ⟨mz4,fmz ⟨mz5,fmz ⟨mz6,fmz ⟨mz7,fmz ⟨mz8,fmz ⟨mz9,fmz ⟨zEb,fmz ⟨zLr,fmz ⟨zRH,fnz⟩⟩⟩⟩⟩⟩⟩⟩⟩⟩⟩⟩⟩)) rfl
    exact ⟨(q.1+1,v'),(by show ps.length - (q.1+1)<ps.length - q.1;omega),⟨hk,zVH hI'.1 hbw.size,by show zBJ _ _ _ _ _ (pvs 47 (plV ps (q.1+1)));rw [zRC (by rw [decide_eq_false hq0];exact e), <-zIP];exact hI'.2.below hbw⟩,s.keepK _ (fmz ⟨zEb,fmz ⟨zLr,fmz ⟨zRH,fmz ⟨mz2,fmz ⟨.head _,fnz⟩⟩⟩⟩⟩)⟩
   ·refine zVF ?_
    refine yF 1 ((28, .u (uI ((q.1+1:Nat):Int))):: []) s kI
     (oc (qA .i64 (q.1:Int) 1 ((q.1+1:Nat):Int) iiz iiz (wrap64 _ _ oP oP))<|zD) fun a w11 s=> ?_
    replace s:=s.drop [7]
    refine zCt (uI ((q.1+1:Nat):Int)) rfl s kI zC kI fun a w s=> ?_
    refine zA rfl ?_
    replace s:=s.popB
    have hbw:=s.below
    replace s:=s0.back (s.keepK [(7, .u (uI ((q.1+1:Nat):Int))),(28, .u (uI ((q.1+1:Nat):Int))),(23, .u (uB (!(zET (at_ ps q.1) (at_ ps (q.1 - 1))==0)))),(3, .u (uI (q.1:Int))),(9, .u (uI (q.1:Int))),(11, .u (fPV 47 (at_ ps q.1))),(8, .u (uB (decide ((q.1:Int)<((pvs 47 ps).length:Int))))),(0, .u (UF.eq l)),(5, .u (UF.eq l)),(6, .u (uI ((pvs 47 ps).length:Int))),(2, .u (UF.eq (q.2)))] (fmz ⟨.head _,fmz ⟨mz1,fmz ⟨mz2,fmz ⟨mz3,fmz ⟨mz4,fmz ⟨mz5,fmz ⟨mz6,fmz ⟨mz7,fmz ⟨mz8,fmz ⟨mz9,fmz ⟨zEb,fnz⟩⟩⟩⟩⟩⟩⟩⟩⟩⟩⟩)) rfl
    exact ⟨(q.1+1,q.2),(by show ps.length - (q.1+1)<ps.length - q.1;omega),⟨hk,zVH hI.2.1 hbw.size,by show zBJ _ _ _ _ _ (pvs 47 (plV ps (q.1+1)));rw [zS0 (by rw [decide_eq_false hq0];exact e)];exact hI.2.2.below hbw⟩,s.keepK _ (fmz ⟨mz7,fmz ⟨mz8,fmz ⟨mz9,fmz ⟨zEb,fmz ⟨.head _,fnz⟩⟩⟩⟩⟩)⟩
 ·have hk:q.1=ps.length:=by have h7:=zVJ e;have h8:=hI.1;simp at h7;omega
  refine zVL ?_
  refine zVC ?_
  refine yF 1 ((29, .u (UF.eq (q.2))):: []) s kI
   (oc zC<|zD) fun a w12 s=> ?_
  replace s:=s.drop [2]
  refine y8 (UF.eq (q.2)) rfl s kI iiz fun a w s=> ?_
  refine zA rfl ?_
  refine zVD ?_
  exact StS.resN s s0.below rfl (by rw [s.val (.head _)];have:=(hI.2.2.below s.below).mono hb0';rw [hk] at this;exact this)
theorem zLn {W:Wp} {l:Wq} {L:List Int} (hl:(SF.row 1 (zEg L)).p l W) (hL:zUi L) (hn:L.length<=1000000):Calls prog 31 #[l] W (Ret W (wL W 31 6 (pns (zBf L (L.length / 2))))):=by
 refine yE [(UF.eq l).tS] func31 rfl kI ⟨rfl,trivial⟩ fun a s=> ?_
 replace s:=s.renew [(0, .u (UF.eq l))] (fmz ⟨.inr ⟨_,rfl, .head _⟩,fnz⟩)
 refine zVC ?_
 refine zB 1 ((2, .u (UF.eq (.slice none 0 0))):: []) hmix s kI
  (oc zG<|zD) fun a w1 s=> ?_
 refine zA rfl ?_
 refine zVC ?_
 refine zB 1 ((3, .u (UF.eq (.slice none 0 0))):: []) hmix s kI
  (oc zG<|zD) fun a w2 s=> ?_
 refine zA rfl ?_
 refine zVC ?_
 refine zVC ?_
 refine zB 1 ((4, .u (uI 0)):: []) hmix s kI
  (oc zG<|zD) fun a w3 s=> ?_
 refine zA rfl ?_
 refine zVG ?_
 refine zFy (fun (p:Nat×Wq) w=>2*p.1<=L.length/\W.heap.size<=w.heap.size/\zBJ w W.heap.size 31 6 p.2 (pns (zBf L p.1))) (fun p=> [(0, .u (UF.eq l)),(3, .u (UF.eq (p.2))),(4, .u (uI ((2*p.1:Nat):Int)))]) (fun p=>L.length - 2*p.1) (0, .slice none 0 0) (⟨zVM _,s.gr.size,zBJ.nil _ _ _ _⟩) (s.keepK _ (fmz ⟨mz3,fmz ⟨mz1,fmz ⟨.head _,fnz⟩⟩⟩)) fun p a w hI s=> ?_
 have s0:=s
 have hlw:=(SF.row 1 (zEg L)).st _ _ _ hl s0.below
 replace s:=s.reb rfl [(0, .u (UF.eq l)),(3, .u (UF.eq (p.2))),(4, .u (uI ((2*p.1:Nat):Int)))] (fmz ⟨.inl (.head _),fmz ⟨.inl mz1,fmz ⟨.inl mz2,fnz⟩⟩⟩)
 refine zVC ?_
 refine zVC ?_
 refine zB 5 ((5, .Z (uI ((2*p.1:Nat):Int)))::(6, .Z (uI ((2*p.1+1:Nat):Int)))::(7, .Z (UF.eq l))::(8, .Z (uI ((zEg L).length:Int)))::(9, .u (uB (decide (((2*p.1+1:Nat):Int)<((zEg L).length:Int))))):: []) hmix s kI
  (oc zC<|oc (qA .i64 ((2*p.1:Nat):Int) 1 ((2*p.1+1:Nat):Int) iiz iiz (wrap64 _ _ oP oP))<|oc zC<|oc (yZ (z:=1) (Cs:=zEg L) kI (fun v W hb h=>(yJ hlw h (s.up hb))) (fun _=>rfl))<|oc (zT .i64 ((2*p.1+1:Nat):Int) ((zEg L).length:Int) (decide (((2*p.1+1:Nat):Int)<((zEg L).length:Int))) iiz iiz rfl rfl)<|zD) fun a w4 s=> ?_
 refine zA rfl ?_
 refine StS.cond s (decide (((2*p.1+1:Nat):Int)<((zEg L).length:Int))) iiz (fun e=> ?_) (fun e=> ?_)
 ·have hk:2*p.1+1<L.length:=by have:=zVI e;simp at this;omega
  refine zVF ?_
  refine zVC ?_
  refine zVG ?_
  refine zDS (K:= [(9, .u (uB (decide (((2*p.1+1:Nat):Int)<((zEg L).length:Int))))),(0, .u (UF.eq l)),(4, .u (uI ((2*p.1:Nat):Int)))]) [(3, .u (UF.eq (p.2)))] [0,1,2,5,6] 12 ((12, .u (UF.eq (p.2)))::(13, .Z (UF.eq l))::(14, .Z (uI ((2*p.1:Nat):Int)))::(15, .s (wB (wC [.int .i64 (gI L (2*p.1))]).cf))::(16, .Z (uI (gI L (2*p.1))))::(17, .Z (UF.eq l))::(18, .Z (uI ((2*p.1:Nat):Int)))::(19, .Z (uI ((2*p.1+1:Nat):Int)))::(20, .s (wB (wC [.int .i64 (gI L (2*p.1+1))]).cf))::(21, .Z (uI (gI L (2*p.1+1))))::(22, .Z (fPN (((gI L (2*p.1):Int):Rat),((gI L (2*p.1+1):Int):Rat))))::(23, .s (SF.row 6 [CU.agg (fPN (((gI L (2*p.1):Int):Rat),((gI L (2*p.1+1):Int):Rat)))])):: []) hmix (s.keepK _ (fmz ⟨mz2,fmz ⟨.head _,fmz ⟨mz1,fmz ⟨mz3,fnz⟩⟩⟩⟩)) kI
   (oc zC<|oc zC<|oc zC<|oc (yX (z:=1) (Cs:=zEg L) (i:=(2*p.1)) (C:=wC [.int .i64 (gI L (2*p.1))]) kI (zF3 oP) (fun v W hb h=>(yJ hlw h (s.up hb))) iiz)<|oc (qS (C:=(wC [.int .i64 (gI L (2*p.1))]).cf) kI iiz zCJ)<|oc zC<|oc zC<|oc (qA .i64 ((2*p.1:Nat):Int) 1 ((2*p.1+1:Nat):Int) iiz iiz (wrap64 _ _ oP oP))<|oc (yX (z:=1) (Cs:=zEg L) (i:=(2*p.1+1)) (C:=wC [.int .i64 (gI L (2*p.1+1))]) kI (zF3 oP) (fun v W hb h=>(yJ hlw h (s.up hb))) iiz)<|oc (qS (C:=(wC [.int .i64 (gI L (2*p.1+1))]).cf) kI iiz zCJ)<|oc (zL zE zJP (fun u0 u1 W hb (h0:u0= .int .i64 (gI L (2*p.1))) (h1:u1= .int .i64 (gI L (2*p.1+1)))=>zFa h0 h1 (hL _) (hL _)))<|oc (zAP (fun u W (hu:(fPN (((gI L (2*p.1):Int):Rat),((gI L (2*p.1+1):Int):Rat))).p u W)=>zID hu))<|zD) fun Q' hQ a w5 s hr=> ?_
  refine zKh ([CU.agg (fPN (((gI L (2*p.1):Int):Rat),((gI L (2*p.1+1):Int):Rat)))]) s0 (s.keepK [(12, .u (UF.eq (p.2))),(9, .u (uB (decide (((2*p.1+1:Nat):Int)<((zEg L).length:Int))))),(0, .u (UF.eq l)),(4, .u (uI ((2*p.1:Nat):Int)))] (fmz ⟨.head _,fmz ⟨mz1,fmz ⟨mz2,fmz ⟨mz3,fnz⟩⟩⟩⟩)) lr hI.2 rfl kI kI kI (s.fct (.tmp 12)) (hr (_,_) zLr) (zIT _ _) (by simp [zMN];omega) (fun q hq=>by cases hq) fun v' a w hI' s=> ?_
  have s1:=s
  replace s:=s.reb rfl [(24, .u (UF.eq v')),(12, .u (UF.eq (p.2))),(9, .u (uB (decide (((2*p.1+1:Nat):Int)<((zEg L).length:Int))))),(0, .u (UF.eq l)),(4, .u (uI ((2*p.1:Nat):Int)))] (fmz ⟨.inl (.head _),fmz ⟨.inl mz1,fmz ⟨.inl mz2,fmz ⟨.inl mz3,fmz ⟨.inl mz4,fnz⟩⟩⟩⟩⟩)
  refine y8 (UF.eq v') rfl s kI iiz fun a w s=> ?_
  refine zA rfl (hQ _ _ ?_)
  refine yF 2 ((10, .Z (uI ((2*p.1:Nat):Int)))::(11, .u (uI ((2*(p.1+1):Nat):Int))):: []) s kI
   (oc zC<|oc (qA .i64 ((2*p.1:Nat):Int) 2 ((2*(p.1+1):Nat):Int) iiz iiz (wrap64 _ _ oP oP))<|zD) fun a w6 s=> ?_
  replace s:=s.drop [4]
  refine y8 (uI ((2*(p.1+1):Nat):Int)) rfl s kI iiz fun a w s=> ?_
  refine zA rfl ?_
  have hbw:=s.below
  replace s:=s1.back (s.keepK [(4, .u (uI ((2*(p.1+1):Nat):Int))),(11, .u (uI ((2*(p.1+1):Nat):Int))),(3, .u (UF.eq v')),(24, .u (UF.eq v')),(12, .u (UF.eq (p.2))),(9, .u (uB (decide (((2*p.1+1:Nat):Int)<((zEg L).length:Int))))),(0, .u (UF.eq l))] (fmz ⟨.head _,fmz ⟨mz1,fmz ⟨mz2,fmz ⟨mz3,fmz ⟨mz4,fmz ⟨mz5,fmz ⟨mz6,fnz⟩⟩⟩⟩⟩⟩⟩)) rfl
  exact ⟨(p.1+1,v'),(by show L.length - 2*(p.1+1)<L.length - 2*p.1;omega),⟨by show 2*(p.1+1)<=_;omega,zVH hI'.1 hbw.size,by show zBJ _ _ _ _ _ (pns (zBf L (p.1+1)));rw [zKb];exact hI'.2.below hbw⟩,s.keepK _ (fmz ⟨mz6,fmz ⟨mz2,fmz ⟨.head _,fnz⟩⟩⟩)⟩
 ·have hk:p.1=L.length / 2:=by have h7:=zVJ e;have h8:=hI.1;simp at h7;omega
  refine zVL ?_
  refine zVC ?_
  refine zB 2 ((25, .Z (UF.eq (p.2)))::(2, .u (UF.eq (p.2))):: []) hmix s kI
   (oc zC<|oc zG<|zD) fun a w7 s=> ?_
  refine zA rfl ?_
  refine zVD ?_
  exact StS.resN s s0.below rfl (by rw [s.val (.head _)];have:=hI.2.2.below s.below;rw [hk] at this;exact this)
theorem zFb {W:Wp} {v:Wq} {z:Int} (hv:v= .int .i64 z) (hz: -50<=z/\z<=50):Calls prog 33 #[v] W (Ret W (fQN (((((z:Int):Rat)+((0:Int):Rat)) / 2+((0:Int):Rat)) / 2)).tS):=by
 have hz1:QB ((z:Int):Rat) 10:=(qbz (z:=z) oP).mono dB
 have hz2:QB ((((z:Int):Rat)+((0:Int):Rat)) / 2) 10:=(((qbz (z:=z) oP).add (qbz (z:=0) dB)).div (qbz (z:=2) dB)).mono dB
 refine yE [(uI z).tS] func33 rfl kI ⟨hv,trivial⟩ fun a s=> ?_
 refine zVC ?_
 refine zB 0 [] hmix s kI
  zD fun a w1 s=> ?_
 refine zW (CU.len 3) (cs:=zR3) kI rfl s kI (fun W=>rfl) rfl fun b2 a w s=> ?_
 refine zA rfl ?_
 refine zVC ?_
 refine zB 6 ((3, .Z (uI z))::(4, .Z (fQN ((z:Int):Rat)))::(5, .Z (fQN ((0:Int):Rat)))::(6, .Z (fQN ((((z:Int):Rat)+((0:Int):Rat)) / 2)))::(7, .Z (fQN ((0:Int):Rat)))::(8, .u (fQN ((((((z:Int):Rat)+((0:Int):Rat)) / 2)+((0:Int):Rat)) / 2))):: []) hmix s kI
  (oc zC<|oc (zH zE zGd (fun u0 W hb (h0:u0= .int .i64 z)=>zC9 _ h0 oP))<|oc (zH zE zGd (fun u0 W hb (h0:u0= .int .i64 0)=>zC9 _ h0 oP))<|oc (zL zE zR7 (fun u0 u1 W hb (h0:QNp ((z:Int):Rat) u0 W) (h1:QNp ((0:Int):Rat) u1 W)=>zKO (m:=10) (p:=((z:Int):Rat)) (q:=((0:Int):Rat)) (wG h0 hz1) (wG h1 ((qbz (z:=0) dB).mono dB)) dB dB))<|oc (zH zE zGd (fun u0 W hb (h0:u0= .int .i64 0)=>zC9 _ h0 oP))<|oc (zL zE zR7 (fun u0 u1 W hb (h0:QNp ((((z:Int):Rat)+((0:Int):Rat)) / 2) u0 W) (h1:QNp ((0:Int):Rat) u1 W)=>zKO (m:=10) (p:=((((z:Int):Rat)+((0:Int):Rat)) / 2)) (q:=((0:Int):Rat)) (wG h0 hz2) (wG h1 ((qbz (z:=0) dB).mono dB)) dB dB))<|zD) fun a w2 s=> ?_
 refine zN (CU.agg (fQN ((((((z:Int):Rat)+((0:Int):Rat)) / 2)+((0:Int):Rat)) / 2))) ((fQN ((((((z:Int):Rat)+((0:Int):Rat)) / 2)+((0:Int):Rat)) / 2)).tS) rfl s kI rfl rfl rfl iiz iiz zY fun a w s=> ?_
 refine zA rfl ?_
 refine zVD ?_
 exact wJ s (CU.agg (fQN (((((z:Int):Rat)+((0:Int):Rat)) / 2+((0:Int):Rat)) / 2))) rfl kI rfl rfl (y5 _) (fun cs W h=>h)
def g19 (A:List PX) (TS:List TX) (L:List PX):Bool:=((((gPt A||decide (((pxs A).length:Int)>8))||gTr TS)||decide (((txs TS).length:Int)>6))||gPt L)||decide (((pxs L).length:Int)>8)
theorem zS8 {A:List PX} {TS:List TX} {L:List PX} (h:g19 A TS L=false):gPt A=false/\gTr TS=false/\gPt L=false:=by
 unfold g19 at h
 simp only [zV2] at h
 exact ⟨h.1.1.1.1.1,h.1.1.1.2,h.1.2⟩
theorem zLV {W:Wp} {r l q:Wq} {A L:List PX} {TS:List TX} (hr0:(SF.row 6 (pxs A)).p r W) (hl0:(SF.row 18 (txs TS)).p l W) (hq0:(SF.row 6 (pxs L)).p q W):Calls prog 6 #[r,l,q] W (Ret W (fB (g19 A TS L)).tS):=by
 refine yE [(UF.eq r).tS,(UF.eq l).tS,(UF.eq q).tS] func6 rfl kI ⟨rfl,rfl,rfl,trivial⟩ fun a s=> ?_
 replace s:=s.renew [(0, .u (UF.eq r)),(1, .u (UF.eq l)),(2, .u (UF.eq q))] (fmz ⟨.inr ⟨_,rfl, .head _⟩,fmz ⟨.inr ⟨_,rfl,mz1⟩,fmz ⟨.inr ⟨_,rfl,mz2⟩,fnz⟩⟩⟩)
 refine zVC ?_
 refine zB 1 ((6, .u (uB false)):: []) hmix s kI
  (oc zG<|zD) fun a w1 s=> ?_
 refine zA rfl ?_
 refine zVC ?_
 replace s:=s.drop [6]
 refine zB 26 ((7, .Z (UF.eq r))::(8, .Z (uB (gPt A)))::(9, .Z (uB (gPt A)))::(10, .s (SF.imp ((gPt A)=false) ((UF.eq r).tS)))::(11, .s (SF.imp ((gPt A)=false) ((uI ((pxs A).length:Int)).tS)))::(12, .s (SF.imp ((gPt A)=false) ((uB (decide (((pxs A).length:Int)>8))).tS)))::(13, .Z (uB ((gPt A)||(decide (((pxs A).length:Int)>8)))))::(14, .Z (uB ((gPt A)||(decide (((pxs A).length:Int)>8)))))::(15, .s (SF.imp (((gPt A)||(decide (((pxs A).length:Int)>8)))=false) ((UF.eq l).tS)))::(16, .s (SF.imp (((gPt A)||(decide (((pxs A).length:Int)>8)))=false) ((uB (gTr TS)).tS)))::(17, .Z (uB (((gPt A)||(decide (((pxs A).length:Int)>8)))||(gTr TS))))::(18, .Z (uB (((gPt A)||(decide (((pxs A).length:Int)>8)))||(gTr TS))))::(19, .s (SF.imp ((((gPt A)||(decide (((pxs A).length:Int)>8)))||(gTr TS))=false) ((UF.eq l).tS)))::(20, .s (SF.imp ((((gPt A)||(decide (((pxs A).length:Int)>8)))||(gTr TS))=false) ((uI ((txs TS).length:Int)).tS)))::(21, .s (SF.imp ((((gPt A)||(decide (((pxs A).length:Int)>8)))||(gTr TS))=false) ((uB (decide (((txs TS).length:Int)>6))).tS)))::(22, .Z (uB ((((gPt A)||(decide (((pxs A).length:Int)>8)))||(gTr TS))||(decide (((txs TS).length:Int)>6)))))::(23, .Z (uB ((((gPt A)||(decide (((pxs A).length:Int)>8)))||(gTr TS))||(decide (((txs TS).length:Int)>6)))))::(24, .s (SF.imp (((((gPt A)||(decide (((pxs A).length:Int)>8)))||(gTr TS))||(decide (((txs TS).length:Int)>6)))=false) ((UF.eq q).tS)))::(25, .s (SF.imp (((((gPt A)||(decide (((pxs A).length:Int)>8)))||(gTr TS))||(decide (((txs TS).length:Int)>6)))=false) ((uB (gPt L)).tS)))::(26, .Z (uB (((((gPt A)||(decide (((pxs A).length:Int)>8)))||(gTr TS))||(decide (((txs TS).length:Int)>6)))||(gPt L))))::(27, .Z (uB (((((gPt A)||(decide (((pxs A).length:Int)>8)))||(gTr TS))||(decide (((txs TS).length:Int)>6)))||(gPt L))))::(28, .s (SF.imp ((((((gPt A)||(decide (((pxs A).length:Int)>8)))||(gTr TS))||(decide (((txs TS).length:Int)>6)))||(gPt L))=false) ((UF.eq q).tS)))::(29, .s (SF.imp ((((((gPt A)||(decide (((pxs A).length:Int)>8)))||(gTr TS))||(decide (((txs TS).length:Int)>6)))||(gPt L))=false) ((uI ((pxs L).length:Int)).tS)))::(30, .s (SF.imp ((((((gPt A)||(decide (((pxs A).length:Int)>8)))||(gTr TS))||(decide (((txs TS).length:Int)>6)))||(gPt L))=false) ((uB (decide (((pxs L).length:Int)>8))).tS)))::(31, .Z (uB ((((((gPt A)||(decide (((pxs A).length:Int)>8)))||(gTr TS))||(decide (((txs TS).length:Int)>6)))||(gPt L))||(decide (((pxs L).length:Int)>8)))))::(6, .u (uB ((((((gPt A)||(decide (((pxs A).length:Int)>8)))||(gTr TS))||(decide (((txs TS).length:Int)>6)))||(gPt L))||(decide (((pxs L).length:Int)>8))))):: []) hmix s kI
  (oc zC<|oc (zH zE zQI (fun u0 W hb (h0:u0=r)=>zDD (L:=A) (yJ hr0 h0 (s.up hb))))<|oc zC<|oc (zF 9 (gPt A) kI iiz (fun e=>qO [] ((UF.eq r).tS) fnz fO kI zC) fM)<|oc (zF 9 (gPt A) kI iiz (fun e=>qO [(10,(UF.eq r).tS)] ((uI ((pxs A).length:Int)).tS) (fmz ⟨fun v W h=>yS (c:=(gPt A)=false) (f:=(UF.eq r).tS) e h,fnz⟩) fO kI (yZ (z:=6) (Cs:=pxs A) kI (fun v W hb h=>(yJ hr0 h (s.up hb))) (fun _=>rfl))) fM)<|oc (zF 9 (gPt A) kI iiz (fun e=>qO [(11,(uI ((pxs A).length:Int)).tS)] ((uB (decide (((pxs A).length:Int)>8))).tS) (fmz ⟨fun v W h=>yS (c:=(gPt A)=false) (f:=(uI ((pxs A).length:Int)).tS) e h,fnz⟩) fO kI (zT .i64 ((pxs A).length:Int) 8 (decide (((pxs A).length:Int)>8)) iiz iiz rfl rfl)) fM)<|oc (yC (gPt A) iiz (fun e v W h=>zDF h e) (fun e v W h=>zCy (yS e h) e))<|oc zC<|oc (zF 14 ((gPt A)||(decide (((pxs A).length:Int)>8))) kI iiz (fun e=>qO [] ((UF.eq l).tS) fnz fO kI zC) fM)<|oc (zF 14 ((gPt A)||(decide (((pxs A).length:Int)>8))) kI iiz (fun e=>qO [(15,(UF.eq l).tS)] ((uB (gTr TS)).tS) (fmz ⟨fun v W h=>yS (c:=((gPt A)||(decide (((pxs A).length:Int)>8)))=false) (f:=(UF.eq l).tS) e h,fnz⟩) fO kI (zH zE zTH (fun u0 W hb (h0:u0=l)=>zJx (L:=TS) (yJ hl0 h0 (s.up hb))))) fM)<|oc (yC ((gPt A)||(decide (((pxs A).length:Int)>8))) iiz (fun e v W h=>zDF h e) (fun e v W h=>zCy (yS e h) e))<|oc zC<|oc (zF 18 (((gPt A)||(decide (((pxs A).length:Int)>8)))||(gTr TS)) kI iiz (fun e=>qO [] ((UF.eq l).tS) fnz fO kI zC) fM)<|oc (zF 18 (((gPt A)||(decide (((pxs A).length:Int)>8)))||(gTr TS)) kI iiz (fun e=>qO [(19,(UF.eq l).tS)] ((uI ((txs TS).length:Int)).tS) (fmz ⟨fun v W h=>yS (c:=(((gPt A)||(decide (((pxs A).length:Int)>8)))||(gTr TS))=false) (f:=(UF.eq l).tS) e h,fnz⟩) fO kI (yZ (z:=18) (Cs:=txs TS) kI (fun v W hb h=>(yJ hl0 h (s.up hb))) (fun _=>rfl))) fM)<|oc (zF 18 (((gPt A)||(decide (((pxs A).length:Int)>8)))||(gTr TS)) kI iiz (fun e=>qO [(20,(uI ((txs TS).length:Int)).tS)] ((uB (decide (((txs TS).length:Int)>6))).tS) (fmz ⟨fun v W h=>yS (c:=(((gPt A)||(decide (((pxs A).length:Int)>8)))||(gTr TS))=false) (f:=(uI ((txs TS).length:Int)).tS) e h,fnz⟩) fO kI (zT .i64 ((txs TS).length:Int) 6 (decide (((txs TS).length:Int)>6)) iiz iiz rfl rfl)) fM)<|oc (yC (((gPt A)||(decide (((pxs A).length:Int)>8)))||(gTr TS)) iiz (fun e v W h=>zDF h e) (fun e v W h=>zCy (yS e h) e))<|oc zC<|oc (zF 23 ((((gPt A)||(decide (((pxs A).length:Int)>8)))||(gTr TS))||(decide (((txs TS).length:Int)>6))) kI iiz (fun e=>qO [] ((UF.eq q).tS) fnz fO kI zC) fM)<|oc (zF 23 ((((gPt A)||(decide (((pxs A).length:Int)>8)))||(gTr TS))||(decide (((txs TS).length:Int)>6))) kI iiz (fun e=>qO [(24,(UF.eq q).tS)] ((uB (gPt L)).tS) (fmz ⟨fun v W h=>yS (c:=((((gPt A)||(decide (((pxs A).length:Int)>8)))||(gTr TS))||(decide (((txs TS).length:Int)>6)))=false) (f:=(UF.eq q).tS) e h,fnz⟩) fO kI (zH zE zQI (fun u0 W hb (h0:u0=q)=>zDD (L:=L) (yJ hq0 h0 (s.up hb))))) fM)<|oc (yC ((((gPt A)||(decide (((pxs A).length:Int)>8)))||(gTr TS))||(decide (((txs TS).length:Int)>6))) iiz (fun e v W h=>zDF h e) (fun e v W h=>zCy (yS e h) e))<|oc zC<|oc (zF 27 (((((gPt A)||(decide (((pxs A).length:Int)>8)))||(gTr TS))||(decide (((txs TS).length:Int)>6)))||(gPt L)) kI iiz (fun e=>qO [] ((UF.eq q).tS) fnz fO kI zC) fM)<|oc (zF 27 (((((gPt A)||(decide (((pxs A).length:Int)>8)))||(gTr TS))||(decide (((txs TS).length:Int)>6)))||(gPt L)) kI iiz (fun e=>qO [(28,(UF.eq q).tS)] ((uI ((pxs L).length:Int)).tS) (fmz ⟨fun v W h=>yS (c:=(((((gPt A)||(decide (((pxs A).length:Int)>8)))||(gTr TS))||(decide (((txs TS).length:Int)>6)))||(gPt L))=false) (f:=(UF.eq q).tS) e h,fnz⟩) fO kI (yZ (z:=6) (Cs:=pxs L) kI (fun v W hb h=>(yJ hq0 h (s.up hb))) (fun _=>rfl))) fM)<|oc (zF 27 (((((gPt A)||(decide (((pxs A).length:Int)>8)))||(gTr TS))||(decide (((txs TS).length:Int)>6)))||(gPt L)) kI iiz (fun e=>qO [(29,(uI ((pxs L).length:Int)).tS)] ((uB (decide (((pxs L).length:Int)>8))).tS) (fmz ⟨fun v W h=>yS (c:=(((((gPt A)||(decide (((pxs A).length:Int)>8)))||(gTr TS))||(decide (((txs TS).length:Int)>6)))||(gPt L))=false) (f:=(uI ((pxs L).length:Int)).tS) e h,fnz⟩) fO kI (zT .i64 ((pxs L).length:Int) 8 (decide (((pxs L).length:Int)>8)) iiz iiz rfl rfl)) fM)<|oc (yC (((((gPt A)||(decide (((pxs A).length:Int)>8)))||(gTr TS))||(decide (((txs TS).length:Int)>6)))||(gPt L)) iiz (fun e v W h=>zDF h e) (fun e v W h=>zCy (yS e h) e))<|oc zG<|zD) fun a w2 s=> ?_
 refine zA rfl ?_
 refine zVD ?_
 exact wH s (t:=6) rfl (fun v W h=>h)
end Go.Proofs.Wd

namespace Go.Proofs.Wd
open Tryz
set_option maxRecDepth 100000
set_option maxHeartbeats 1000000
open Go.RowKit Lb
abbrev LR:List Int:= [0,0,1,0,0,1]
abbrev LT:List Int:= [2,0,3,0,2,1]
abbrev LW:List Int:= [0,0,1,0,1,0]
abbrev TT:V6:=((((2:Int):Rat),((0:Int):Rat)),(((3:Int):Rat),((0:Int):Rat)),(((2:Int):Rat),((1:Int):Rat)))
abbrev BT:V2×Bool:=zAX (tl TT) (zBf LR 3) (((0:Int):Rat),((0:Int):Rat)) (yL (((4:Int):Rat),((0:Int):Rat)) (((0:Int):Rat),((0:Int):Rat)))
abbrev QU (z:Int):Rat:=(((((z:Int):Rat)+((0:Int):Rat)) / 2+((0:Int):Rat)) / 2)
abbrev L3:List V2:= [(((0:Int):Rat),((0:Int):Rat)),(((1:Int):Rat),((0:Int):Rat)),(((2:Int):Rat),((0:Int):Rat))]
theorem zUy:BT.2=true:=by kernel_rfl
theorem zUx:(qsg (zAJ BT).1 (QU 1)==0)=true:=by kernel_rfl
theorem zUw:(qsg (zAJ BT).2 (QU 3)==0)=true:=by kernel_rfl
theorem zUv:decide (zCl (zBf LR 3) [TT] (zBf LW 3)<0)=true:=by kernel_rfl
theorem zUu:zCl (zBf LR 3) [TT] L3=1:=by kernel_rfl
theorem zUt:(qsg (zEd (zBf LW 3) ((zBf LW 3).length - 1)) ((1:Int):Rat)==0)=true:=by kernel_rfl
theorem zUs:(plV (zBf LW 3) (zBf LW 3).length).length=2:=by kernel_rfl
theorem zQO {S:V2×Bool} {M:Nat} (h:QB S.1.1 M/\QB S.1.2 M) (hM:0<M):QB (zAJ S).1 M/\QB (zAJ S).2 M:=by
 unfold zAJ
 split
 ·exact h
 ·exact ⟨QB.zero hM,QB.zero hM⟩
theorem quz (z:Int) (hz: -50<=z/\z<=50):QB (QU z) 400:=(((((qbz (z:=z) oP).add (qbz (z:=0) dB)).div (qbz (z:=2) dB)).add (qbz (z:=0) dB)).div (qbz (z:=2) dB)).mono dB
theorem zSM {p q:V2} {m M:Nat} (hp:QB p.1 m/\QB p.2 m) (hq:QB q.1 m/\QB q.2 m) (h:m+m+1<=M):QB (yL p q).1 M/\QB (yL p q).2 M:=⟨(hp.1.sub hq.1).mono h,(hp.2.sub hq.2).mono h⟩
theorem zSs:QB (zAJ BT).1 400/\QB (zAJ BT).2 400:=zQO (S:=BT) (M:=400) (zSt (T:=tl TT) (R:=zBf LR 3) (a:=(((0:Int):Rat),((0:Int):Rat))) (d:=yL (((4:Int):Rat),((0:Int):Rat)) (((0:Int):Rat),((0:Int):Rat))) (M:=400) (n:=1) (k:=1) (j:=3) (fun p hp=>by
  rcases zVE.1 hp with rfl|hp
  ·exact ⟨qbz dB,qbz dB⟩
  ·rcases zVE.1 hp with rfl|hp
   ·exact ⟨qbz dB,qbz dB⟩
   ·obtain rfl:=zVK.1 hp;exact ⟨qbz dB,qbz dB⟩) (zFr (zEP dB) 3) ⟨qbz dB,qbz dB⟩ (zSM (m:=1) (p:=(((4:Int):Rat),((0:Int):Rat))) (q:=(((0:Int):Rat),((0:Int):Rat))) ⟨qbz dB,qbz dB⟩ ⟨qbz dB,qbz dB⟩ dB) dB) dB
theorem zTS {u v q:Wq} {W:Wp} (hu:(fPN TT.1).p u W) (hv:(fPN TT.2.1).p v W) (hq:(fPN TT.2.2).p q W): ∃cells,prog.built 42 [(0,u),(1,v),(2,q)]=some cells/\(fTR 5 TT).p (.agg cells) W:=
 zUm (t:=TT) (jD (m:=1) dB (zCH (qbz dB) (qbz dB) hu)) (jD (m:=1) dB (zCH (qbz dB) (qbz dB) hv)) (jD (m:=1) dB (zCH (qbz dB) (qbz dB) hq))
theorem zRL (v:Wq) (W:Wp) (h:(SF.row 6 (pns L3)).p v W):(SF.row 6 (pvs 47 L3)).p v W:=zHS (fun p hp=>by
  rcases zVE.1 hp with rfl|hp
  ·exact ⟨(qbz dB).mono dB,(qbz dB).mono dB⟩
  ·rcases zVE.1 hp with rfl|hp
   ·exact ⟨(qbz dB).mono dB,(qbz dB).mono dB⟩
   ·obtain rfl:=zVK.1 hp;exact ⟨(qbz dB).mono dB,(qbz dB).mono dB⟩) v W h
theorem zOT {L:List Int} {m:Nat} (hL:L.all (fun z=>decide (z.natAbs<100))=true) (hm:1<=m) (v:Wq) (W:Wp) (h:(SF.row 6 (pns (zBf L 3))).p v W):(SF.row 6 (pvs m (zBf L 3))).p v W:=zBQ hm v W (zHS (zFr (zEP hL) 3) v W h)
theorem zCL {W:Wp} (hT:Tab W):Calls prog 11 #[] W (Ret W (fB true).tS):=by
 refine yE [] func11 rfl kI trivial fun a s=> ?_
 refine zVC ?_
 refine zB 1 ((0, .u (uB false)):: []) hmix s kI
  (oc zG<|zD) fun a w1 s=> ?_
 refine zA rfl ?_
 refine zVC ?_
 refine jT 4 ((8, .s (SF.row 1 (zEg [0,0,1,0,0,1])))::(9, .s (wL w1 31 6 (pns (zBf LR 3))))::(10, .s (SF.row 1 (zEg [2,0,3,0,2,1])))::(11, .s (wL w1 31 6 (pns (zBf LT 3)))):: []) hmix s kI
  (oc (zEJ _ _ _ _ _ _ iiz)<|oc (zH zE zQH (fun u0 W hb (h0:(SF.row 1 (zEg [0,0,1,0,0,1])).p u0 W)=>(zLn (L:=LR) h0 (zEP dB).ok dB).mono (wI (zCB hb.size))))<|oc (zEJ _ _ _ _ _ _ iiz)<|oc (zH zE zQH (fun u0 W hb (h0:(SF.row 1 (zEg [2,0,3,0,2,1])).p u0 W)=>(zLn (L:=LT) h0 (zEP dB).ok dB).mono (wI (zCB hb.size))))<|zD) fun a w2 s hr=> ?_
 obtain ⟨v9,e9⟩: ∃v,a.tmps.getD 9 undef=v:=⟨_,rfl⟩
 have hv9:(SF.row 6 (pvs 5 (zBf LR 3))).p v9 w2:=e9▸zOT dB dB _ _ (zBM _ _ (hr (_,_) mz1))
 replace s:=s.learn 9 v9 e9
 obtain ⟨v11,e11⟩: ∃v,a.tmps.getD 11 undef=v:=⟨_,rfl⟩
 have hv11:(SF.row 6 (pns (zBf LT 3))).p v11 w2:=e11▸zBM _ _ (hr (_,_) mz3)
 replace s:=s.learn 11 v11 e11
 have hb0:=s.below
 replace hT:=hT.below hb0
 replace s:=s.reb rfl [(11, .u (UF.eq v11)),(9, .u (UF.eq v9)),(0, .u (uB false))] (fmz ⟨.inl (.head _),fmz ⟨.inl mz1,fmz ⟨.inl mz2,fnz⟩⟩⟩)
 refine y8 (UF.eq v9) rfl s kI iiz fun a w s=> ?_
 refine y8 (UF.eq v11) rfl s kI iiz fun a w s=> ?_
 refine zA rfl ?_
 refine zVC ?_
 have so:=s.old;have sg:=s.gr
 refine zAg (fun i=> [].contains i) [⟨10,3,42, [.bool false, .slice none 0 0, .slice none 0 0, .bool false, .slice none 0 0, .slice none 0 0, .bool false, .slice none 0 0, .slice none 0 0, .bool false, .slice none 0 0, .slice none 0 0, .bool false, .slice none 0 0, .slice none 0 0, .bool false, .slice none 0 0, .slice none 0 0],wF w 42 (CU.len 18)⟩] 11 ((12, .Z (UF.eq v11))::(13, .Y (fPN (((2:Int):Rat),((0:Int):Rat))))::(14, .Z (fPN (((2:Int):Rat),((0:Int):Rat))))::(15, .Z (UF.eq v11))::(16, .Y (fPN (((3:Int):Rat),((0:Int):Rat))))::(17, .Z (fPN (((3:Int):Rat),((0:Int):Rat))))::(18, .Z (UF.eq v11))::(19, .Y (fPN (((2:Int):Rat),((1:Int):Rat))))::(20, .Z (fPN (((2:Int):Rat),((1:Int):Rat))))::(21, .u (fTR 5 TT))::(3, .s (wF w 42 (CU.len 18))):: []) hmix s (fmz ⟨⟨by show 10<11;decide,zEb,⟨_,_,_,rfl⟩,by kernel_rfl,jE (fun _=>rfl) rfl⟩,fnz⟩) kI
  (oc zC<|oc (yX (z:=6) (Cs:=pns (zBf LT 3)) (i:=0) (C:=CU.agg (fPN (((2:Int):Rat),((0:Int):Rat)))) kI rfl (fun v W hb h=>(yJ hv11 h (s.up hb))) iiz)<|oc (zJ (f:=fPN (((2:Int):Rat),((0:Int):Rat))) 6 kI (hz:=z4 _ _))<|oc zC<|oc (yX (z:=6) (Cs:=pns (zBf LT 3)) (i:=1) (C:=CU.agg (fPN (((3:Int):Rat),((0:Int):Rat)))) kI rfl (fun v W hb h=>(yJ hv11 h (s.up hb))) iiz)<|oc (zJ (f:=fPN (((3:Int):Rat),((0:Int):Rat))) 6 kI (hz:=z4 _ _))<|oc zC<|oc (yX (z:=6) (Cs:=pns (zBf LT 3)) (i:=2) (C:=CU.agg (fPN (((2:Int):Rat),((1:Int):Rat)))) kI rfl (fun v W hb h=>(yJ hv11 h (s.up hb))) iiz)<|oc (zJ (f:=fPN (((2:Int):Rat),((1:Int):Rat))) 6 kI (hz:=z4 _ _))<|oc (zGS (fun u v q W (hu:(fPN (((2:Int):Rat),((0:Int):Rat))).p u W) (hv:(fPN (((3:Int):Rat),((0:Int):Rat))).p v W) (hq:(fPN (((2:Int):Rat),((1:Int):Rat))).p q W)=>zTS hu hv hq))<|oc (zAz (cs:= [.bool false, .slice none 0 0, .slice none 0 0, .bool false, .slice none 0 0, .slice none 0 0, .bool false, .slice none 0 0, .slice none 0 0, .bool false, .slice none 0 0, .slice none 0 0, .bool false, .slice none 0 0, .slice none 0 0, .bool false, .slice none 0 0, .slice none 0 0]) kI (jE (fun _=>rfl) rfl))<|zD) fun Q' hQ a w3 s hr hd=> ?_
 obtain ⟨b3,hB3,e3,s⟩:=s.adoptA false 3 (hr (_,_) zEb) sg (fun y hy=> .inl (so y hy))
 refine zN (CU.agg (fTR 5 TT)) ((fTR 5 TT).tS) rfl s kI rfl rfl rfl iiz iiz zFs fun a w s=> ?_
 refine zA rfl (hQ _ _ ?_)
 refine zVC ?_
 have so:=s.old;have sg:=s.gr
 refine zAg (fun i=> [7,8].contains i) [⟨9,4,29, [.bool false, .slice none 0 0, .slice none 0 0],wF w 29 (CU.len 3)⟩,⟨10,5,29, [.bool false, .slice none 0 0, .slice none 0 0],wF w 29 (CU.len 3)⟩] 11 ((23, .Z (UF.eq v9))::(24, .Z (fTR 5 TT))::(25, .Z (fPN (((0:Int):Rat),((0:Int):Rat))))::(26, .Z (fPN (((4:Int):Rat),((0:Int):Rat))))::(27, .Z (zDL (fQN ((zAJ BT).1)) (fQN ((zAJ BT).2)) (uB true)))::(22, .Z (zDL (fQN ((zAJ BT).1)) (fQN ((zAJ BT).2)) (uB true)))::(28, .u (fQN ((zAJ BT).1)))::(29, .u (fQN ((zAJ BT).2)))::(30, .u (uB true))::(4, .s (wF w 29 (CU.len 3)))::(5, .s (wF w 29 (CU.len 3))):: []) hmix s (fmz ⟨⟨by show 9<11;decide,mz9,⟨_,_,_,rfl⟩,by kernel_rfl,jE (fun _=>rfl) rfl⟩,fmz ⟨⟨by show 10<11;decide,zEb,⟨_,_,_,rfl⟩,by kernel_rfl,jE (fun _=>rfl) rfl⟩,fnz⟩⟩) kI
  (oc zC<|oc (zJ (f:=fTR 5 TT) 18 kI (hz:=zEr _ _))<|oc (zL zE zJP (fun u0 u1 W hb (h0:u0= .int .i64 0) (h1:u1= .int .i64 0)=>zFa h0 h1 dB dB))<|oc (zL zE zJP (fun u0 u1 W hb (h0:u0= .int .i64 4) (h1:u1= .int .i64 0)=>zFa h0 h1 dB dB))<|oc (zBh zE zR8 (fun u0 u1 u2 u3 W hb (h0:u0=v9) (h1:(fTR 5 TT).p u1 W) (h2:(fPN (((0:Int):Rat),((0:Int):Rat))).p u2 W) (h3:(fPN (((4:Int):Rat),((0:Int):Rat))).p u3 W)=>(zHf (R:=zBf LR 3) (T:=TT) (p:=(((0:Int):Rat),((0:Int):Rat))) (e_:=(((4:Int):Rat),((0:Int):Rat))) (yJ hv9 h0 (s.up hb)) h1 (jD (m:=1) dB (zCH (p:=(((0:Int):Rat),((0:Int):Rat))) (qbz dB) (qbz dB) h2)) (jD (m:=1) dB (zCH (p:=(((4:Int):Rat),((0:Int):Rat))) (qbz dB) (qbz dB) h3)) dB (hT.below (s.up hb))).mono (wI (fun v W h=>by rw [zUy] at h;exact h))))<|oc zC<|oc (zD9 (A:=(fQN ((zAJ BT).1)).tS) (B:=(fQN ((zAJ BT).2)).tS) (C:=(uB true).tS) iiz)<|oc (zD8 (A:=(fQN ((zAJ BT).1)).tS) (B:=(fQN ((zAJ BT).2)).tS) (C:=(uB true).tS) iiz)<|oc (zD7 (A:=(fQN ((zAJ BT).1)).tS) (B:=(fQN ((zAJ BT).2)).tS) (C:=(uB true).tS) iiz)<|oc (zAz (cs:=zR3) kI (jE (fun _=>rfl) rfl))<|oc (zAz (cs:=zR3) kI (jE (fun _=>rfl) rfl))<|zD) fun Q' hQ a w4 s hr hd=> ?_
 obtain ⟨b4,hB4,e4,s⟩:=s.adoptA false 4 (hr (_,_) mz9) sg (fun y hy=> .inl (so y hy))
 obtain ⟨b5,hB5,e5,s⟩:=s.adoptA false 5 (hr (_,_) zEb) sg (fun y hy=>by rcases zVE.1 hy with rfl|hy;exact .inr (.inr fun b hb=>hd _ _ (.head _) mz1 (by show 9≠10;decide) _ _ e4 hb);exact .inl (so y hy))
 refine zN (CU.agg (fQN ((zAJ BT).1))) ((fQN ((zAJ BT).1)).tS) rfl s kI rfl rfl rfl iiz iiz zY fun a w s=> ?_
 refine zN (CU.agg (fQN ((zAJ BT).2))) ((fQN ((zAJ BT).2)).tS) rfl s kI rfl rfl rfl iiz iiz zY fun a w s=> ?_
 refine y8 (uB true) rfl s kI iiz fun a w s=> ?_
 refine zA rfl (hQ _ _ ?_)
 refine zVC ?_
 refine jT 2 ((31, .s (SF.row 1 (zEg [0,0,1,0,1,0])))::(32, .s (wL w 31 6 (pns (zBf LW 3)))):: []) hmix s kI
  (oc (zEJ _ _ _ _ _ _ iiz)<|oc (zH zE zQH (fun u0 W hb (h0:(SF.row 1 (zEg [0,0,1,0,1,0])).p u0 W)=>(zLn (L:=LW) h0 (zEP dB).ok dB).mono (wI (zCB hb.size))))<|zD) fun a w5 s hr=> ?_
 obtain ⟨v32,e32⟩: ∃v,a.tmps.getD 32 undef=v:=⟨_,rfl⟩
 have hv32:(SF.row 6 (pvs 47 (zBf LW 3))).p v32 w5:=e32▸zOT dB dB _ _ (zBM _ _ (hr (_,_) mz1))
 replace s:=s.learn 32 v32 e32
 have hb1:=s.below
 replace hT:=hT.below hb1
 replace hv9:=(SF.row 6 _).st _ _ _ hv9 hb1
 replace s:StS _ _ _ [⟨5,29,CU.agg (fQN ((zAJ BT).2)),b5,true⟩,⟨4,29,CU.agg (fQN ((zAJ BT).1)),b4,true⟩,⟨3,42,CU.agg (fTR 5 TT),b3,true⟩] _ _ _ _:=s.freeze
 replace s:=s.reb rfl [(32, .u (UF.eq v32)),(6, .u (uB true)),(28, .u (fQN ((zAJ BT).1))),(29, .u (fQN ((zAJ BT).2))),(30, .u (uB true)),(21, .u (fTR 5 TT)),(2, .u (UF.eq v11)),(1, .u (UF.eq v9)),(11, .u (UF.eq v11)),(9, .u (UF.eq v9)),(0, .u (uB false))] (fmz ⟨.inl (.head _),fmz ⟨.inl mz1,fmz ⟨.inl mz2,fmz ⟨.inl mz3,fmz ⟨.inl mz4,fmz ⟨.inl mz5,fmz ⟨.inl mz6,fmz ⟨.inl mz7,fmz ⟨.inl mz8,fmz ⟨.inl mz9,fmz ⟨.inl zEb,fnz⟩⟩⟩⟩⟩⟩⟩⟩⟩⟩⟩)
 refine y8 (UF.eq v32) rfl s kI iiz fun a w s=> ?_
 refine zA rfl ?_
 refine zVC ?_
 replace s:=s.drop [0]
 refine zB 42 ((33, .Z (uB true))::(34, .Z (uB true))::(35, .Z (fQN ((zAJ BT).1)))::(36, .Z (fQN (QU 1)))::(37, .Z (uB true))::(38, .Z (uB true))::(39, .Z (uB true))::(40, .Z (fQN ((zAJ BT).2)))::(41, .Z (fQN (QU 3)))::(42, .Z (uB true))::(43, .Z (uB true))::(44, .Z (uB true))::(45, .Z (UF.eq v9))::(46, .Z (fTR 5 TT))::(47, .s (SF.row 18 (trs 5 [TT])))::(48, .Z (UF.eq v32))::(49, .Z (uB true))::(50, .Z (uB true))::(51, .Z (uB true))::(52, .Z (UF.eq v9))::(53, .Z (fTR 5 TT))::(54, .s (SF.row 18 (trs 5 [TT])))::(55, .Z (fPN (((0:Int):Rat),((0:Int):Rat))))::(56, .Z (fPN (((1:Int):Rat),((0:Int):Rat))))::(57, .Z (fPN (((2:Int):Rat),((0:Int):Rat))))::(58, .s (SF.row 6 [CU.agg (fPN (((0:Int):Rat),((0:Int):Rat))),CU.agg (fPN (((1:Int):Rat),((0:Int):Rat))),CU.agg (fPN (((2:Int):Rat),((0:Int):Rat)))]))::(59, .Z (uI 1))::(60, .Z (uB true))::(61, .Z (uB true))::(62, .Z (uB true))::(63, .Z (UF.eq v32))::(64, .Z (fQN (zEd (zBf LW 3) ((zBf LW 3).length - 1))))::(65, .Z (fQN ((1:Int):Rat)))::(66, .Z (uB true))::(67, .Z (uB true))::(68, .Z (uB true))::(69, .Z (UF.eq v32))::(70, .s (SF.row 6 (pvs 47 (plV (zBf LW 3) (zBf LW 3).length))))::(71, .Z (uI (((pvs 47 (plV (zBf LW 3) (zBf LW 3).length)).length:Nat):Int)))::(72, .Z (uB true))::(73, .Z (uB true))::(0, .u (uB true)):: []) hmix s kI
  (oc zC<|oc zC<|oc (zF 34 true kI iiz (fun _=>zJ (f:=fQN ((zAJ BT).1)) 3 kI (hz:=y5 _)) arf)<|oc (zF 34 true kI iiz (fun _=>zH zE zR5 (fun u0 W hb (h0:u0= .int .i64 1)=>zFb h0 dB)) arf)<|oc (zF 34 true kI iiz (fun _=>zL zE zQJ (fun u0 u1 W hb (h0:QNp ((zAJ BT).1) u0 W) (h1:QNp (QU 1) u1 W)=>(zFI (m:=400) (p:=(zAJ BT).1) (q:=(QU 1)) (wG h0 zSs.1) (wG h1 (quz _ dB)) dB dB).mono (wI (fun v W h=>by rw [zUx] at h;exact h)))) arf)<|oc (yC true iiz fN (fun e=>by cases e))<|oc zC<|oc (zF 39 true kI iiz (fun _=>zJ (f:=fQN ((zAJ BT).2)) 3 kI (hz:=y5 _)) arf)<|oc (zF 39 true kI iiz (fun _=>zH zE zR5 (fun u0 W hb (h0:u0= .int .i64 3)=>zFb h0 dB)) arf)<|oc (zF 39 true kI iiz (fun _=>zL zE zQJ (fun u0 u1 W hb (h0:QNp ((zAJ BT).2) u0 W) (h1:QNp (QU 3) u1 W)=>(zFI (m:=400) (p:=(zAJ BT).2) (q:=(QU 3)) (wG h0 zSs.2) (wG h1 (quz _ dB)) dB dB).mono (wI (fun v W h=>by rw [zUw] at h;exact h)))) arf)<|oc (yC true iiz fN (fun e=>by cases e))<|oc zC<|oc (zF 44 true kI iiz (fun _=>zC) arf)<|oc (zF 44 true kI iiz (fun _=>zJ (f:=fTR 5 TT) 18 kI (hz:=zEr _ _)) arf)<|oc (zF 44 true kI iiz (fun _=>zAP (fun u W (hu:(fTR 5 TT).p u W)=>zKl hu)) arf)<|oc (zF 44 true kI iiz (fun _=>zC) arf)<|oc (zF 44 true kI iiz (fun _=>zCA zE zTJ (fun u0 u1 u2 W hb (h0:u0=v9) (h1:(SF.row 18 (trs 5 [TT])).p u1 W) (h2:u2=v32)=>(zOd (R:=zBf LR 3) (Ts:= [TT]) (ps:=zBf LW 3) (yJ hv9 h0 (s.up hb)) h1 (yJ hv32 h2 (s.up hb)) dB dB dB (hT.below (s.up hb))).mono (wI (fun v W h=>by rw [zUv] at h;exact h)))) arf)<|oc (yC true iiz fN (fun e=>by cases e))<|oc zC<|oc (zF 51 true kI iiz (fun _=>zC) arf)<|oc (zF 51 true kI iiz (fun _=>zJ (f:=fTR 5 TT) 18 kI (hz:=zEr _ _)) arf)<|oc (zF 51 true kI iiz (fun _=>zAP (fun u W (hu:(fTR 5 TT).p u W)=>zKl hu)) arf)<|oc (zF 51 true kI iiz (fun _=>zL zE zJP (fun u0 u1 W hb (h0:u0= .int .i64 0) (h1:u1= .int .i64 0)=>zFa h0 h1 dB dB)) arf)<|oc (zF 51 true kI iiz (fun _=>zL zE zJP (fun u0 u1 W hb (h0:u0= .int .i64 1) (h1:u1= .int .i64 0)=>zFa h0 h1 dB dB)) arf)<|oc (zF 51 true kI iiz (fun _=>zL zE zJP (fun u0 u1 W hb (h0:u0= .int .i64 2) (h1:u1= .int .i64 0)=>zFa h0 h1 dB dB)) arf)<|oc (zF 51 true kI iiz (fun _=>zDd (fun u v q W (hu:(fPN (((0:Int):Rat),((0:Int):Rat))).p u W) (hv:(fPN (((1:Int):Rat),((0:Int):Rat))).p v W) (hq:(fPN (((2:Int):Rat),((0:Int):Rat))).p q W)=>zKn hu hv hq)) arf)<|oc (zF 51 true kI iiz (fun _=>zCA zE zR4 (fun u0 u1 u2 W hb (h0:u0=v9) (h1:(SF.row 18 (trs 5 [TT])).p u1 W) (h2:(SF.row 6 [CU.agg (fPN (((0:Int):Rat),((0:Int):Rat))),CU.agg (fPN (((1:Int):Rat),((0:Int):Rat))),CU.agg (fPN (((2:Int):Rat),((0:Int):Rat)))]).p u2 W)=>(zJg (R:=zBf LR 3) (Ts:= [TT]) (ps:=L3) (yJ hv9 h0 (s.up hb)) h1 (zRL _ _ h2) dB dB dB (hT.below (s.up hb))).mono (wI (fun v W h=>by rw [zUu] at h;exact h)))) arf)<|oc (zF 51 true kI iiz (fun _=>zT .i64 1 1 true iiz iiz (by rfl) rfl) arf)<|oc (yC true iiz fN (fun e=>by cases e))<|oc zC<|oc (zF 62 true kI iiz (fun _=>zC) arf)<|oc (zF 62 true kI iiz (fun _=>zH zE zTI (fun u0 W hb (h0:u0=v32)=>zSp (ps:=zBf LW 3) (yJ hv32 h0 (s.up hb)) dB (hT.below (s.up hb)))) arf)<|oc (zF 62 true kI iiz (fun _=>zH zE zGd (fun u0 W hb (h0:u0= .int .i64 1)=>zC9 _ h0 dB)) arf)<|oc (zF 62 true kI iiz (fun _=>zL zE zQJ (fun u0 u1 W hb (h0:QNp (zEd (zBf LW 3) ((zBf LW 3).length - 1)) u0 W) (h1:QNp ((1:Int):Rat) u1 W)=>(zFI (m:=400) (p:=(zEd (zBf LW 3) ((zBf LW 3).length - 1))) (q:=((1:Int):Rat)) (wG h0 (zLE (fun p hp=>⟨(zFr (L:=LW) (zEP dB) 3 p hp).1.mono dB,(zFr (L:=LW) (zEP dB) 3 p hp).2.mono dB⟩) _ dB dB)) (wG h1 ((qbz (z:=1) dB).mono dB)) dB dB).mono (wI (fun v W h=>by rw [zUt] at h;exact h)))) arf)<|oc (yC true iiz fN (fun e=>by cases e))<|oc zC<|oc (zF 68 true kI iiz (fun _=>zC) arf)<|oc (zF 68 true kI iiz (fun _=>zH zE zTD (fun u0 W hb (h0:u0=v32)=>(zN9 (ps:=zBf LW 3) (yJ hv32 h0 (s.up hb)) dB (hT.below (s.up hb))).mono (wI zBM))) arf)<|oc (zF 68 true kI iiz (fun _=>zCb (z:=6) (Cs:=pvs 47 (plV (zBf LW 3) (zBf LW 3).length)) kI iiz (fun _=>rfl)) arf)<|oc (zF 68 true kI iiz (fun _=>zT .i64 (((pvs 47 (plV (zBf LW 3) (zBf LW 3).length)).length:Nat):Int) 2 true iiz iiz (by rw [zVQ,zUs];rfl) rfl) arf)<|oc (yC true iiz fN (fun e=>by cases e))<|oc zG<|zD) fun a w6 s=> ?_
 refine zA rfl ?_
 refine zVD ?_
 exact wS s (hb0.trans (hb1.mono hb0.size)) rfl iiz
theorem zNs (m:Nat) (ps:List V2) (k:Nat):(pvs m ps).drop k=pvs m (ps.drop k):=by unfold pvs;rw [List.map_drop]
theorem zNr (m:Nat) (ps:List V2) (k:Nat):(pvs m ps).take k=pvs m (ps.take k):=by unfold pvs;rw [List.map_take]
theorem zP5 (m:Nat) (ps:List V2) (k:Nat):pvs m (ps.drop k)++pvs m (ps.take k)=pvs m (zE6 ps k):=by unfold pvs zE6;rw [zWg]
theorem zSW (z:Int) {n:Nat} (h:0<n): ∃k:Nat,k<n/\(z.tmod n+n).tmod n=(k:Int):=by
 have h1: -(n:Int)<z.tmod n:=Int.lt_tmod_of_pos z oP
 have h2:z.tmod n<n:=Int.tmod_lt_of_pos z oP
 have h3:0<=(z.tmod n+n).tmod n:=Int.tmod_nonneg _ oP
 have h4:(z.tmod n+n).tmod n<n:=Int.tmod_lt_of_pos _ oP
 exact ⟨((z.tmod n+n).tmod n).toNat,by omega,by omega⟩
theorem zPj {z:Int} (h1: -9223372036854775808<=z) (h2:z<=9223372036854775807):IntKind.i64.wrap z=z:=by
 rw [IntKind.wrap_i64]
 omega
theorem zKW (m:Nat) (ps:List V2): ∀C,C∈pvs m ps->CU.ok 6 C:=fun C hC=>by
 obtain ⟨t,_,rfl⟩:=zVN.1 hC
 exact zB7 _ _
end Go.Proofs.Wd
