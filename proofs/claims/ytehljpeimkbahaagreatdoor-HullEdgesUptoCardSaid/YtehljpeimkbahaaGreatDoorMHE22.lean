/- Walks of straitref13: Edge, apart, Simple; Where a point is, of a conv and what it needs. -/
import Derived.Test.YtehljpeimkbahaaGreatDoorMHE21
import Derived.Test.YtehljpeimkbahaaGreatDoorMHE20
import Derived.Test.YtehljpeimkbahaaGreatDoorMHE13
theorem kJ {P:Prop} (h:P:=by kernel_rfl):P:=h
theorem oQ {P:Prop} (h:P:=by omega):P:=h
theorem dC {P:Prop} (h:P:=by decide):P:=h
abbrev zXo:=@Go.wpIn_seq
abbrev zXp:=@Go.wpIn_skip
abbrev zXq:=@Go.wpIn_ret
abbrev zXr:=@Nat.mod_eq_of_lt
abbrev zXs:=@Go.wpIn_block
abbrev zXt:=@Prod.ext
abbrev zXu:=@Rat.mul_nonneg
abbrev zXv:=@Classical.byContradiction
abbrev zXw:=@beq_iff_eq
abbrev zXx:=@Rat.mul_pos
abbrev zXy:=@Rat.le_of_lt
abbrev zXz:=@List.length_map
abbrev zXA:=@of_decide_eq_true
abbrev zXB:=@Rat.le_refl
abbrev zXC:=@decide_eq_false
abbrev zXD:=@List.mem_range
abbrev zXE:=@decide_eq_true
abbrev zXF:=@List.all_eq_true
abbrev zXG:=@Nat.lt_or_eq_of_le
abbrev zXH:=@Nat.mod_self
abbrev zXI:=@Go.IntKind.wrap_i64
abbrev zXJ:=@of_decide_eq_false
abbrev zXK:=@Bool.and_eq_true
abbrev zXL:=@Rat.le_total
abbrev zXM:=@Nat.mod_lt
abbrev zXN:=@Nat.zero_le
abbrev zXO:=@Nat.le_of_lt_succ
abbrev zXP:=@Go.wpIn_exit
abbrev zXQ:=@beq_eq_false_iff_ne
abbrev zXR:=@Nat.lt_or_ge
abbrev zXS:=@Bool.or_eq_false_iff
abbrev zXT:=@Rat.div_mul_cancel
abbrev zXU:=@Rat.not_lt
abbrev zXV:=@Rat.le_trans
abbrev zXW:=@List.getElem?_eq_getElem
abbrev zXX:=@List.all_eq_false
abbrev zXY:=@Nat.not_lt_zero
abbrev zXZ:=@Rat.num_eq_zero
abbrev zX0:=@decide_eq_true_iff
abbrev zX1:=@List.getElem?_map
abbrev zX2:=@List.getD_eq_getElem?_getD
namespace Go.Proofs.Wd
open Tryz
set_option maxRecDepth 100000
set_option maxHeartbeats 1000000
open Go.RowKit Lb
def zAB (ps:List V2) (k i:Nat):Bool:=if i=k+1∨(k=0/\i=ps.length - 1) then zBx (at_ ps k) (at_ ps ((k+1) % ps.length)) (at_ ps i) (at_ ps ((i+1) % ps.length))==1 else zBx (at_ ps k) (at_ ps ((k+1) % ps.length)) (at_ ps i) (at_ ps ((i+1) % ps.length))==0
def zOq (ps:List V2) (i k:Nat):Bool:= !((yY (at_ ps i) (at_ ps k)==0)|| !(zAB ps k i))
def zDG (ps:List V2):Bool:=decide (3<=ps.length)&&(List.range ps.length).all fun i=>(List.range i).all fun k=>zOq ps i k
theorem zIx {ps:List V2} (h:ps.length<3):zDG ps=false:=by
 unfold zDG
 rw [zXC oQ,Bool.false_and]
theorem zQn {ps:List V2} {i k:Nat} (hi:i<ps.length) (hk:k<i) (h:((yY (at_ ps i) (at_ ps k)==0)|| !(zAB ps k i))=true):zDG ps=false:=by
 unfold zDG
 rw [Bool.and_eq_false_iff]
 right
 rw [zXX]
 refine ⟨i,zXD.2 hi, ?_⟩
 rw [Bool.not_eq_true,zXX]
 refine ⟨k,zXD.2 hk, ?_⟩
 unfold zOq
 rw [h]
 decide
theorem zNg {ps:List V2} (h3:3<=ps.length) (h: ∀i k,i<ps.length->k<i->((yY (at_ ps i) (at_ ps k)==0)|| !(zAB ps k i))=false):zDG ps=true:=by
 unfold zDG
 rw [zXE h3,Bool.true_and,zXF]
 intro i hi
 rw [zXF]
 intro k hk
 unfold zOq
 rw [h i k (zXD.1 hi) (zXD.1 hk)]
 rfl
theorem zGW {m:Nat} {W:World} {l u:Value} {ps:List V2} {k:Nat} (hl:(SF.row 6 (pvs m ps)).p l W) (hu:u= .int .i64 (k:Int)) (hk:k<ps.length) (hn:ps.length<=1000000) (h2:2<=ps.length):Calls prog 63 #[l,u] W (Ret W (zFc (fPV m (at_ ps k)) (fPV m (at_ ps ((k+1) % ps.length))) (fB true)).tS):=by
 have hk1:(k+1) % ps.length<ps.length:=zXM _ oQ
 refine yB [(UF.eq l).tS,(uI (k:Int)).tS] func63 rfl kJ ⟨rfl,hu,trivial⟩ fun a s=> ?_
 replace s:=s.renew [(0, .u (UF.eq l)),(1, .u (uI (k:Int)))] (fmz ⟨.inr ⟨_,rfl, .head _⟩,fmz ⟨.inr ⟨_,rfl,mz1⟩,fnz⟩⟩)
 refine zXo ?_
 refine zB 0 [] hmix s kJ
  zD fun a w1 s=> ?_
 refine z7 (CU.agg (fPV m (((0:Rat),(0:Rat)):V2))) (cs:=ptZ) kJ rfl s kJ (fun W=>zFY m W) rfl fun b4 a w s=> ?_
 refine z7 (CU.agg (fPV m (((0:Rat),(0:Rat)):V2))) (cs:=ptZ) kJ rfl s kJ (fun W=>zFY m W) rfl fun b5 a w s=> ?_
 refine yU (uB false) rfl s kJ iiz fun a w s=> ?_
 refine zA rfl ?_
 refine zXo ?_
 refine zXo ?_
 refine zB 13 ((7, .s ((UF.eq l).tS))::(8, .s ((uI ((pvs m ps).length:Int)).tS))::(9, .s ((uB false).tS))::(10, .s ((uB false).tS))::(11, .s ((uI (k:Int)).tS))::(12, .s ((uB false).tS))::(13, .s ((uB false).tS))::(14, .s ((uB false).tS))::(15, .s ((uI (k:Int)).tS))::(16, .s ((UF.eq l).tS))::(17, .s ((uI ((pvs m ps).length:Int)).tS))::(18, .s ((uB false).tS))::(19, .u (uB false)):: []) hmix s kJ
  (oc zC<|oc (y4 (z:=6) (Cs:=pvs m ps) kJ (fun v W hb h=>(yZ hl h (s.up hb))) (fun _=>rfl))<|oc (zS .i64 ((pvs m ps).length:Int) 2 false iiz iiz (by first|(simp;omega)|simp) rfl)<|oc zC<|oc (zF 10 false kJ iiz (fun _=>zC) arf)<|oc (zF 10 false kJ iiz (fun _=>zS .i64 (k:Int) 0 false iiz iiz (by first|(simp;omega)|simp) rfl) arf)<|oc (y6 false iiz (fun e=>by cases e) (fun _ _ _ h=>h))<|oc zC<|oc (zF 14 false kJ iiz (fun _=>zC) arf)<|oc (zF 14 false kJ iiz (fun _=>zC) arf)<|oc (zF 14 false kJ iiz (fun _=>y4 (z:=6) (Cs:=pvs m ps) kJ (fun v W hb h=>(yZ hl h (s.up hb))) (fun _=>rfl)) arf)<|oc (zF 14 false kJ iiz (fun _=>zS .i64 (k:Int) ((pvs m ps).length:Int) false iiz iiz (by first|(simp;omega)|simp) rfl) arf)<|oc (y6 false iiz (fun e=>by cases e) (fun _ _ _ h=>h))<|zD) fun a w2 s=> ?_
 refine zA rfl ?_
 refine StS.cond s false iiz (fun e=>by cases e) (fun e=> ?_)
 refine zXp ?_
 refine zXo ?_
 have hwb:=s.below
 replace s:=s.drop [6]
 refine zKP (GW W) hmix s fun w3 _ s=> ?_
 have hwb:=s.below
 refine zFN [4,5,6,7,8,9,10,11] [0,1,2,3,4,5,6,7,8,9,10,11] ((22, .u (UF.eq l))::(23, .u (uI (k:Int)))::(24, .u (fOp W (CU.agg (fPV m (at_ ps k)))))::(25, .u (fPV m (at_ ps k)))::(26, .u (UF.eq l))::(27, .u (uI (k:Int)))::(28, .u (uI ((k+1:Nat):Int)))::(29, .u (UF.eq l))::(30, .u (uI ((pvs m ps).length:Int)))::(31, .u (uI (((k+1) % ps.length:Nat):Int)))::(32, .u (fOp W (CU.agg (fPV m (at_ ps ((k+1) % ps.length))))))::(33, .u (fPV m (at_ ps ((k+1) % ps.length)))):: []) (zL3 hwb) s kJ
  (oc zC<|oc zC<|oc (zG7 (z:=6) (Cs:=pvs m ps) (i:=k) (C:=CU.agg (fPV m (at_ ps k))) kJ (qQ hk) hl iiz iiz)<|oc (zIT hwb (fPV m (at_ ps k)) 6 kJ iiz zFZ)<|oc zC<|oc zC<|oc (yR .i64 (k:Int) 1 ((k+1:Nat):Int) iiz iiz (wrap64 _ _ oQ oQ))<|oc zC<|oc (y4 (z:=6) (Cs:=pvs m ps) kJ (fun v W hb h=>by rw [show _=l from h];exact (SF.row 6 (pvs m ps)).st _ _ _ hl (s.up hb)) (fun _=>rfl))<|oc (zEO .i64 ((k+1:Nat):Int) ((pvs m ps).length:Int) (((k+1) % ps.length:Nat):Int) iiz iiz (by simp only [zXz];omega) (by simp only [zXz];rw [Int.tmod_eq_emod_of_nonneg oQ];rfl))<|oc (zG7 (z:=6) (Cs:=pvs m ps) (i:=((k+1) % ps.length)) (C:=CU.agg (fPV m (at_ ps ((k+1) % ps.length)))) kJ (qQ hk1) hl iiz iiz)<|oc (zIT hwb (fPV m (at_ ps ((k+1) % ps.length))) 6 kJ iiz zFZ)<|zD)
  (zAZ rfl (zE8.c zEX hwb) (zAZ rfl (zE8.c zEX hwb) (zAZ rfl (zE8.c (zRs (x:= .tmp 27) (y:= .const (.int .i64 1)) .i64 (k:Int) 1 iiz iiz) hwb) (zAZ rfl (zE8.c zEX hwb) (zAZ rfl (zE8.c (zS1 (x:= .tmp 29) (z:=6) (Cs:=pvs m ps) kJ (fun v W hb h=>by rw [show _=l from h];exact (SF.row 6 (pvs m ps)).st _ _ _ hl hb)) hwb) (zAZ rfl (zE8.c (zRr (x:= .tmp 28) (y:= .tmp 30) .i64 ((k+1:Nat):Int) ((pvs m ps).length:Int) iiz iiz (by simp only [zXz];omega)) hwb) (zAZ rfl (zE8.c (zL9 (x:= .tmp 26) (y:= .tmp 31) (z:=6) (Cs:=pvs m ps) (i:=((k+1) % ps.length)) (C:=CU.agg (fPV m (at_ ps ((k+1) % ps.length)))) kJ (qQ hk1) hl iiz iiz) hwb) (zAZ rfl (zE8.c (zOt (x:= .tmp 32) (fPV m (at_ ps ((k+1) % ps.length))) 6 kJ iiz zFZ) hwb) zGk)))))))) fun a w4 hbw s hr=> ?_
 replace hwb:=hwb.trans (hbw.mono hwb.size)
 refine zFm (i:=12) (c:=4) (CU.agg (fPV m (at_ ps k))) ((fPV m (at_ ps k)).tS) s rfl kJ kJ rfl rfl rfl (zO _ _) iiz y5 (fun vs _=>zPu hwb (s.own (c:=4) rfl rfl) _) fun w5 hg _ s=> ?_
 replace hwb:=hg _ (Below.refl _ _)
 refine zFm (i:=13) (c:=5) (CU.agg (fPV m (at_ ps ((k+1) % ps.length)))) ((fPV m (at_ ps ((k+1) % ps.length))).tS) s rfl kJ kJ rfl rfl rfl (zO _ _) iiz y5 (fun vs _=>zPu hwb (s.own (c:=5) rfl rfl) _) fun w6 hg _ s=> ?_
 replace hwb:=hg _ (Below.refl _ _)
 refine zFN [] [14] ((6, .u (uB true)):: []) (zL3 hwb) s kJ (zIX zG<|zD) zGk fun a w7 hbw s hr=> ?_
 refine zIH kJ ?_
 refine zXq ?_
 exact vM s (CU.agg (fPV m (at_ ps k))) (CU.agg (fPV m (at_ ps ((k+1) % ps.length)))) rfl kJ kJ rfl rfl (zO _ _) rfl rfl (zO _ _) (fun cs cs' v W h1 h2 h3=>⟨_,_,_,rfl,h1,h2,h3⟩)
theorem zJM {W:World} {l u v:Value} {ps:List V2} {k i:Nat} (hl:(SF.row 6 (pvs 80 ps)).p l W) (hu:u= .int .i64 (k:Int)) (hv:v= .int .i64 (i:Int)) (hki:k<i) (hi:i<ps.length) (hn:ps.length<=1000000) (h3:3<=ps.length) (hpair: ∀i j,i<ps.length->j<ps.length->i≠j->zD5 (at_ ps i) (at_ ps j)):Calls prog 60 #[l,u,v] W (Ret W (fB (zAB ps k i)).tS):=by
 have hk:k<ps.length:=by omega
 have nx: ∀j,j<ps.length->(j+1) % ps.length<ps.length/\j≠(j+1) % ps.length:=fun j hj=>by
  rcases zXG (Nat.succ_le_of_lt hj) with h|h
  ·rw [zXr h];omega
  ·rw [show j+1=ps.length from h,zXH];omega
 have pkk:zD5 (at_ ps k) (at_ ps ((k+1) % ps.length)):=hpair _ _ hk (nx k hk).1 (nx k hk).2
 have pii:zD5 (at_ ps i) (at_ ps ((i+1) % ps.length)):=hpair _ _ hi (nx i hi).1 (nx i hi).2
 have pki:zD5 (at_ ps k) (at_ ps i):=hpair _ _ hk hi oQ
 refine yB [(UF.eq l).tS,(uI (k:Int)).tS,(uI (i:Int)).tS] func60 rfl kJ ⟨rfl,hu,hv,trivial⟩ fun a s=> ?_
 replace s:=s.renew [(0, .u (UF.eq l)),(1, .u (uI (k:Int))),(2, .u (uI (i:Int)))] (fmz ⟨.inr ⟨_,rfl, .head _⟩,fmz ⟨.inr ⟨_,rfl,mz1⟩,fmz ⟨.inr ⟨_,rfl,mz2⟩,fnz⟩⟩⟩)
 refine zXo ?_
 refine zB 1 ((6, .u (uB false)):: []) hmix s kJ
  (oc zG<|zD) fun a w1 s=> ?_
 refine zA rfl ?_
 refine zXo ?_
 refine zB 7 ((15, .s ((UF.eq l).tS))::(16, .s ((uI (k:Int)).tS))::(17, .s ((zFc (fPV 80 (at_ ps k)) (fPV 80 (at_ ps ((k+1) % ps.length))) (uB true)).tS))::(14, .s ((zFc (fPV 80 (at_ ps k)) (fPV 80 (at_ ps ((k+1) % ps.length))) (uB true)).tS))::(18, .u (fPV 80 (at_ ps k)))::(19, .u (fPV 80 (at_ ps ((k+1) % ps.length))))::(20, .u (uB true)):: []) hmix s kJ
  (oc zC<|oc zC<|oc (zI zE zS8 (fun u0 u1 W hb (h0:u0=l) (h1:u1= .int .i64 (k:Int))=>zGW (m:=80) (ps:=ps) (k:=k) (yZ hl h0 (s.up hb)) h1 hk hn oQ))<|oc zC<|oc (zEi (A:=(fPV 80 (at_ ps k)).tS) (B:=(fPV 80 (at_ ps ((k+1) % ps.length))).tS) (C:=(uB true).tS) iiz)<|oc (zEh (A:=(fPV 80 (at_ ps k)).tS) (B:=(fPV 80 (at_ ps ((k+1) % ps.length))).tS) (C:=(uB true).tS) iiz)<|oc (zEg (A:=(fPV 80 (at_ ps k)).tS) (B:=(fPV 80 (at_ ps ((k+1) % ps.length))).tS) (C:=(uB true).tS) iiz)<|zD) fun a w2 s=> ?_
 refine z7 (CU.len 6) (cs:=zP6) kJ rfl s kJ (fun W=>rfl) rfl fun b7 a w s=> ?_
 refine z7 (CU.len 6) (cs:=zP6) kJ rfl s kJ (fun W=>rfl) rfl fun b8 a w s=> ?_
 refine zR (CU.agg (fPV 80 (at_ ps k))) ((fPV 80 (at_ ps k)).tS) rfl s kJ rfl rfl rfl iiz iiz y5 fun a w s=> ?_
 refine zR (CU.agg (fPV 80 (at_ ps ((k+1) % ps.length)))) ((fPV 80 (at_ ps ((k+1) % ps.length))).tS) rfl s kJ rfl rfl rfl iiz iiz y5 fun a w s=> ?_
 refine yU (uB true) rfl s kJ iiz fun a w s=> ?_
 refine zA rfl ?_
 refine zXo ?_
 refine zB 7 ((22, .s ((UF.eq l).tS))::(23, .s ((uI (i:Int)).tS))::(24, .s ((zFc (fPV 80 (at_ ps i)) (fPV 80 (at_ ps ((i+1) % ps.length))) (uB true)).tS))::(21, .s ((zFc (fPV 80 (at_ ps i)) (fPV 80 (at_ ps ((i+1) % ps.length))) (uB true)).tS))::(25, .u (fPV 80 (at_ ps i)))::(26, .u (fPV 80 (at_ ps ((i+1) % ps.length))))::(27, .u (uB true)):: []) hmix s kJ
  (oc zC<|oc zC<|oc (zI zE zS8 (fun u0 u1 W hb (h0:u0=l) (h1:u1= .int .i64 (i:Int))=>zGW (m:=80) (ps:=ps) (k:=i) (yZ hl h0 (s.up hb)) h1 hi hn oQ))<|oc zC<|oc (zEi (A:=(fPV 80 (at_ ps i)).tS) (B:=(fPV 80 (at_ ps ((i+1) % ps.length))).tS) (C:=(uB true).tS) iiz)<|oc (zEh (A:=(fPV 80 (at_ ps i)).tS) (B:=(fPV 80 (at_ ps ((i+1) % ps.length))).tS) (C:=(uB true).tS) iiz)<|oc (zEg (A:=(fPV 80 (at_ ps i)).tS) (B:=(fPV 80 (at_ ps ((i+1) % ps.length))).tS) (C:=(uB true).tS) iiz)<|zD) fun a w3 s=> ?_
 refine z7 (CU.len 6) (cs:=zP6) kJ rfl s kJ (fun W=>rfl) rfl fun b10 a w s=> ?_
 refine z7 (CU.len 6) (cs:=zP6) kJ rfl s kJ (fun W=>rfl) rfl fun b11 a w s=> ?_
 refine zR (CU.agg (fPV 80 (at_ ps i))) ((fPV 80 (at_ ps i)).tS) rfl s kJ rfl rfl rfl iiz iiz y5 fun a w s=> ?_
 refine zR (CU.agg (fPV 80 (at_ ps ((i+1) % ps.length)))) ((fPV 80 (at_ ps ((i+1) % ps.length))).tS) rfl s kJ rfl rfl rfl iiz iiz y5 fun a w s=> ?_
 refine yU (uB true) rfl s kJ iiz fun a w s=> ?_
 refine zA rfl ?_
 refine zXo ?_
 refine zB 5 ((28, .s ((fPV 80 (at_ ps k)).tS))::(29, .s ((fPV 80 (at_ ps ((k+1) % ps.length))).tS))::(30, .s ((fPV 80 (at_ ps i)).tS))::(31, .s ((fPV 80 (at_ ps ((i+1) % ps.length))).tS))::(32, .u (fMT (zBx (at_ ps k) (at_ ps ((k+1) % ps.length)) (at_ ps i) (at_ ps ((i+1) % ps.length))))):: []) hmix s kJ
  (oc (zK (f:=fPV 80 (at_ ps k)) 6 kJ (hz:=zO _ _))<|oc (zK (f:=fPV 80 (at_ ps ((k+1) % ps.length))) 6 kJ (hz:=zO _ _))<|oc (zK (f:=fPV 80 (at_ ps i)) 6 kJ (hz:=zO _ _))<|oc (zK (f:=fPV 80 (at_ ps ((i+1) % ps.length))) 6 kJ (hz:=zO _ _))<|oc (zF3 zE zUo (fun u0 u1 u2 u3 W hb (h0:(fPV 80 (at_ ps k)).p u0 W) (h1:(fPV 80 (at_ ps ((k+1) % ps.length))).p u1 W) (h2:(fPV 80 (at_ ps i)).p u2 W) (h3:(fPV 80 (at_ ps ((i+1) % ps.length))).p u3 W)=>zK7 h0 h1 h2 h3 pkk pii pki))<|zD) fun a w4 s=> ?_
 refine z7 (CU.len 13) (cs:= [.int .i8 0, .bool false, .slice none 0 0, .slice none 0 0, .bool false, .slice none 0 0, .slice none 0 0, .bool false, .slice none 0 0, .slice none 0 0, .bool false, .slice none 0 0, .slice none 0 0]) kJ rfl s kJ (fun W=>rfl) rfl fun b13 a w s=> ?_
 refine zR (CU.agg (fMT (zBx (at_ ps k) (at_ ps ((k+1) % ps.length)) (at_ ps i) (at_ ps ((i+1) % ps.length))))) ((fMT (zBx (at_ ps k) (at_ ps ((k+1) % ps.length)) (at_ ps i) (at_ ps ((i+1) % ps.length)))).tS) rfl s kJ rfl rfl rfl iiz iiz (zDp _) fun a w s=> ?_
 refine zA rfl ?_
 refine zXo ?_
 refine zXo ?_
 rcases (show i=k+1∨(i≠k+1/\k=0/\i=ps.length - 1)∨(i≠k+1/\k=0/\i≠ps.length - 1)∨(i≠k+1/\k≠0) by omega) with c1|⟨c1,c2,c3⟩|⟨c1,c2,c3⟩|⟨c1,c2⟩
 ·refine zB 0 [] hmix s kJ
   zD fun a w5 s=> ?_
  refine zAQ (uI (i:Int)) rfl s kJ zC kJ fun a w s=> ?_
  refine zAQ (uI (k:Int)) rfl s kJ zC kJ fun a w s=> ?_
  refine zAQ (uI ((k+1:Nat):Int)) rfl s kJ (yR .i64 (k:Int) 1 ((k+1:Nat):Int) iiz iiz (wrap64 _ _ oQ oQ)) kJ fun a w s=> ?_
  refine zAQ (uB true) rfl s kJ (zS .i64 (i:Int) ((k+1:Nat):Int) true iiz iiz (zXw.2 oQ) rfl) kJ fun a w s=> ?_
  refine zAQ (uB true) rfl s kJ zC kJ fun a w s=> ?_
  refine zBF (.bool true) rfl rfl s iiz kJ kJ (fun a w s=> ?_)
  refine zBF (.bool true) rfl rfl s iiz kJ kJ (fun a w s=> ?_)
  refine zBF (.bool true) rfl rfl s iiz kJ kJ (fun a w s=> ?_)
  refine zBF undef rfl rfl s iiz kJ kJ (fun a w s=> ?_)
  refine zBF undef rfl rfl s iiz kJ kJ (fun a w s=> ?_)
  refine zBF undef rfl rfl s iiz kJ kJ (fun a w s=> ?_)
  refine zBF undef rfl rfl s iiz kJ kJ (fun a w s=> ?_)
  refine zBF undef rfl rfl s iiz kJ kJ (fun a w s=> ?_)
  refine zBF (.bool true) rfl rfl s iiz kJ kJ (fun a w s=> ?_)
  refine zAQ (uB true) rfl s kJ (y6 true iiz (fun _ _ _ h=>h) (fun e=>by cases e)) kJ fun a w s=> ?_
  refine zA rfl ?_
  refine StS.cond s true iiz (fun e=> ?_) (fun e=>by cases e)
  refine zXo ?_
  replace s:=s.drop [6]
  refine zB 4 ((48, .s (wB ((CU.agg (fMT (zBx (at_ ps k) (at_ ps ((k+1) % ps.length)) (at_ ps i) (at_ ps ((i+1) % ps.length))))).cf.at 0)))::(49, .s ((UF.eq (.int .i8 (zBx (at_ ps k) (at_ ps ((k+1) % ps.length)) (at_ ps i) (at_ ps ((i+1) % ps.length))))).tS))::(50, .s ((uB ((zBx (at_ ps k) (at_ ps ((k+1) % ps.length)) (at_ ps i) (at_ ps ((i+1) % ps.length)))==1)).tS))::(6, .u (uB ((zBx (at_ ps k) (at_ ps ((k+1) % ps.length)) (at_ ps i) (at_ ps ((i+1) % ps.length)))==1))):: []) hmix s kJ
   (oc (zJ (C:=(CU.agg (fMT (zBx (at_ ps k) (at_ ps ((k+1) % ps.length)) (at_ ps i) (at_ ps ((i+1) % ps.length))))).cf) 0 kJ)<|oc (jF (C:=(CU.agg (fMT (zBx (at_ ps k) (at_ ps ((k+1) % ps.length)) (at_ ps i) (at_ ps ((i+1) % ps.length))))).cf) (k:=0) kJ (h:=zF8 _))<|oc (zS .i8 (zBx (at_ ps k) (at_ ps ((k+1) % ps.length)) (at_ ps i) (at_ ps ((i+1) % ps.length))) 1 ((zBx (at_ ps k) (at_ ps ((k+1) % ps.length)) (at_ ps i) (at_ ps ((i+1) % ps.length)))==1) iiz iiz rfl rfl)<|oc zG<|zD) fun a w6 s=> ?_
  refine zA rfl ?_
  refine zXq ?_
  exact wD s (t:=6) rfl (fun v W h=>by rw [show zAB ps k i=_ from if_pos (.inl c1)];exact h)
 ·refine zB 0 [] hmix s kJ
   zD fun a w7 s=> ?_
  refine zAQ (uI (i:Int)) rfl s kJ zC kJ fun a w s=> ?_
  refine zAQ (uI (k:Int)) rfl s kJ zC kJ fun a w s=> ?_
  refine zAQ (uI ((k+1:Nat):Int)) rfl s kJ (yR .i64 (k:Int) 1 ((k+1:Nat):Int) iiz iiz (wrap64 _ _ oQ oQ)) kJ fun a w s=> ?_
  refine zAQ (uB false) rfl s kJ (zS .i64 (i:Int) ((k+1:Nat):Int) false iiz iiz (zXQ.2 oQ) rfl) kJ fun a w s=> ?_
  refine zAQ (uB false) rfl s kJ zC kJ fun a w s=> ?_
  refine zBD (uI (k:Int)) rfl rfl s iiz kJ zC kJ fun a w s=> ?_
  refine zBD (uB true) rfl rfl s iiz kJ (zS .i64 (k:Int) 0 true iiz iiz (zXw.2 oQ) rfl) kJ fun a w s=> ?_
  refine zBD (uB true) rfl rfl s iiz kJ zC kJ fun a w s=> ?_
  refine zBD (uI (i:Int)) rfl rfl s iiz kJ zC kJ fun a w s=> ?_
  refine zBD (UF.eq l) rfl rfl s iiz kJ zC kJ fun a w s=> ?_
  refine zBD (uI ((pvs 80 ps).length:Int)) rfl rfl s iiz kJ (y4 (z:=6) (Cs:=pvs 80 ps) kJ (fun v W hb h=>(yZ hl h (s.up hb))) (fun _=>rfl)) kJ fun a w s=> ?_
  refine zBD (uI ((ps.length - 1:Nat):Int)) rfl rfl s iiz kJ (zDN .i64 ((pvs 80 ps).length:Int) 1 ((ps.length - 1:Nat):Int) iiz iiz (by simp only [zXz];rw [zXI];omega)) kJ fun a w s=> ?_
  refine zBD (uB true) rfl rfl s iiz kJ (zS .i64 (i:Int) ((ps.length - 1:Nat):Int) true iiz iiz (zXw.2 oQ) rfl) kJ fun a w s=> ?_
  refine zBD (uB true) rfl rfl s iiz kJ (y6 true iiz (fun _ _ _ h=>h) (fun e=>by cases e)) kJ fun a w s=> ?_
  refine zAQ (uB true) rfl s kJ (y6 false iiz (fun e=>by cases e) (fun _ _ _ h=>h)) kJ fun a w s=> ?_
  refine zA rfl ?_
  refine StS.cond s true iiz (fun e=> ?_) (fun e=>by cases e)
  refine zXo ?_
  replace s:=s.drop [6]
  refine zB 4 ((48, .s (wB ((CU.agg (fMT (zBx (at_ ps k) (at_ ps ((k+1) % ps.length)) (at_ ps i) (at_ ps ((i+1) % ps.length))))).cf.at 0)))::(49, .s ((UF.eq (.int .i8 (zBx (at_ ps k) (at_ ps ((k+1) % ps.length)) (at_ ps i) (at_ ps ((i+1) % ps.length))))).tS))::(50, .s ((uB ((zBx (at_ ps k) (at_ ps ((k+1) % ps.length)) (at_ ps i) (at_ ps ((i+1) % ps.length)))==1)).tS))::(6, .u (uB ((zBx (at_ ps k) (at_ ps ((k+1) % ps.length)) (at_ ps i) (at_ ps ((i+1) % ps.length)))==1))):: []) hmix s kJ
   (oc (zJ (C:=(CU.agg (fMT (zBx (at_ ps k) (at_ ps ((k+1) % ps.length)) (at_ ps i) (at_ ps ((i+1) % ps.length))))).cf) 0 kJ)<|oc (jF (C:=(CU.agg (fMT (zBx (at_ ps k) (at_ ps ((k+1) % ps.length)) (at_ ps i) (at_ ps ((i+1) % ps.length))))).cf) (k:=0) kJ (h:=zF8 _))<|oc (zS .i8 (zBx (at_ ps k) (at_ ps ((k+1) % ps.length)) (at_ ps i) (at_ ps ((i+1) % ps.length))) 1 ((zBx (at_ ps k) (at_ ps ((k+1) % ps.length)) (at_ ps i) (at_ ps ((i+1) % ps.length)))==1) iiz iiz rfl rfl)<|oc zG<|zD) fun a w8 s=> ?_
  refine zA rfl ?_
  refine zXq ?_
  exact wD s (t:=6) rfl (fun v W h=>by rw [show zAB ps k i=_ from if_pos (.inr ⟨c2,c3⟩)];exact h)
 ·refine zB 0 [] hmix s kJ
   zD fun a w9 s=> ?_
  refine zAQ (uI (i:Int)) rfl s kJ zC kJ fun a w s=> ?_
  refine zAQ (uI (k:Int)) rfl s kJ zC kJ fun a w s=> ?_
  refine zAQ (uI ((k+1:Nat):Int)) rfl s kJ (yR .i64 (k:Int) 1 ((k+1:Nat):Int) iiz iiz (wrap64 _ _ oQ oQ)) kJ fun a w s=> ?_
  refine zAQ (uB false) rfl s kJ (zS .i64 (i:Int) ((k+1:Nat):Int) false iiz iiz (zXQ.2 oQ) rfl) kJ fun a w s=> ?_
  refine zAQ (uB false) rfl s kJ zC kJ fun a w s=> ?_
  refine zBD (uI (k:Int)) rfl rfl s iiz kJ zC kJ fun a w s=> ?_
  refine zBD (uB true) rfl rfl s iiz kJ (zS .i64 (k:Int) 0 true iiz iiz (zXw.2 oQ) rfl) kJ fun a w s=> ?_
  refine zBD (uB true) rfl rfl s iiz kJ zC kJ fun a w s=> ?_
  refine zBD (uI (i:Int)) rfl rfl s iiz kJ zC kJ fun a w s=> ?_
  refine zBD (UF.eq l) rfl rfl s iiz kJ zC kJ fun a w s=> ?_
  refine zBD (uI ((pvs 80 ps).length:Int)) rfl rfl s iiz kJ (y4 (z:=6) (Cs:=pvs 80 ps) kJ (fun v W hb h=>(yZ hl h (s.up hb))) (fun _=>rfl)) kJ fun a w s=> ?_
  refine zBD (uI ((ps.length - 1:Nat):Int)) rfl rfl s iiz kJ (zDN .i64 ((pvs 80 ps).length:Int) 1 ((ps.length - 1:Nat):Int) iiz iiz (by simp only [zXz];rw [zXI];omega)) kJ fun a w s=> ?_
  refine zBD (uB false) rfl rfl s iiz kJ (zS .i64 (i:Int) ((ps.length - 1:Nat):Int) false iiz iiz (zXQ.2 oQ) rfl) kJ fun a w s=> ?_
  refine zBD (uB false) rfl rfl s iiz kJ (y6 true iiz (fun _ _ _ h=>h) (fun e=>by cases e)) kJ fun a w s=> ?_
  refine zAQ (uB false) rfl s kJ (y6 false iiz (fun e=>by cases e) (fun _ _ _ h=>h)) kJ fun a w s=> ?_
  refine zA rfl ?_
  refine StS.cond s false iiz (fun e=>by cases e) (fun e=> ?_)
  refine zXp ?_
  refine zXo ?_
  replace s:=s.drop [6]
  refine zB 4 ((51, .s (wB ((CU.agg (fMT (zBx (at_ ps k) (at_ ps ((k+1) % ps.length)) (at_ ps i) (at_ ps ((i+1) % ps.length))))).cf.at 0)))::(52, .s ((UF.eq (.int .i8 (zBx (at_ ps k) (at_ ps ((k+1) % ps.length)) (at_ ps i) (at_ ps ((i+1) % ps.length))))).tS))::(53, .s ((uB ((zBx (at_ ps k) (at_ ps ((k+1) % ps.length)) (at_ ps i) (at_ ps ((i+1) % ps.length)))==0)).tS))::(6, .u (uB ((zBx (at_ ps k) (at_ ps ((k+1) % ps.length)) (at_ ps i) (at_ ps ((i+1) % ps.length)))==0))):: []) hmix s kJ
   (oc (zJ (C:=(CU.agg (fMT (zBx (at_ ps k) (at_ ps ((k+1) % ps.length)) (at_ ps i) (at_ ps ((i+1) % ps.length))))).cf) 0 kJ)<|oc (jF (C:=(CU.agg (fMT (zBx (at_ ps k) (at_ ps ((k+1) % ps.length)) (at_ ps i) (at_ ps ((i+1) % ps.length))))).cf) (k:=0) kJ (h:=zF8 _))<|oc (zS .i8 (zBx (at_ ps k) (at_ ps ((k+1) % ps.length)) (at_ ps i) (at_ ps ((i+1) % ps.length))) 0 ((zBx (at_ ps k) (at_ ps ((k+1) % ps.length)) (at_ ps i) (at_ ps ((i+1) % ps.length)))==0) iiz iiz rfl rfl)<|oc zG<|zD) fun a w10 s=> ?_
  refine zA rfl ?_
  refine zXq ?_
  exact wD s (t:=6) rfl (fun v W h=>by rw [show zAB ps k i=_ from if_neg oQ];exact h)
 ·refine zB 0 [] hmix s kJ
   zD fun a w11 s=> ?_
  refine zAQ (uI (i:Int)) rfl s kJ zC kJ fun a w s=> ?_
  refine zAQ (uI (k:Int)) rfl s kJ zC kJ fun a w s=> ?_
  refine zAQ (uI ((k+1:Nat):Int)) rfl s kJ (yR .i64 (k:Int) 1 ((k+1:Nat):Int) iiz iiz (wrap64 _ _ oQ oQ)) kJ fun a w s=> ?_
  refine zAQ (uB false) rfl s kJ (zS .i64 (i:Int) ((k+1:Nat):Int) false iiz iiz (zXQ.2 oQ) rfl) kJ fun a w s=> ?_
  refine zAQ (uB false) rfl s kJ zC kJ fun a w s=> ?_
  refine zBD (uI (k:Int)) rfl rfl s iiz kJ zC kJ fun a w s=> ?_
  refine zBD (uB false) rfl rfl s iiz kJ (zS .i64 (k:Int) 0 false iiz iiz (zXQ.2 oQ) rfl) kJ fun a w s=> ?_
  refine zBD (uB false) rfl rfl s iiz kJ zC kJ fun a w s=> ?_
  refine zBF (.bool false) rfl rfl s iiz kJ kJ (fun a w s=> ?_)
  refine zBF (.bool false) rfl rfl s iiz kJ kJ (fun a w s=> ?_)
  refine zBF (.bool false) rfl rfl s iiz kJ kJ (fun a w s=> ?_)
  refine zBF (.bool false) rfl rfl s iiz kJ kJ (fun a w s=> ?_)
  refine zBF (.bool false) rfl rfl s iiz kJ kJ (fun a w s=> ?_)
  refine zBD (uB false) rfl rfl s iiz kJ (y6 false iiz (fun e=>by cases e) (fun _ _ _ h=>h)) kJ fun a w s=> ?_
  refine zAQ (uB false) rfl s kJ (y6 false iiz (fun e=>by cases e) (fun _ _ _ h=>h)) kJ fun a w s=> ?_
  refine zA rfl ?_
  refine StS.cond s false iiz (fun e=>by cases e) (fun e=> ?_)
  refine zXp ?_
  refine zXo ?_
  replace s:=s.drop [6]
  refine zB 4 ((51, .s (wB ((CU.agg (fMT (zBx (at_ ps k) (at_ ps ((k+1) % ps.length)) (at_ ps i) (at_ ps ((i+1) % ps.length))))).cf.at 0)))::(52, .s ((UF.eq (.int .i8 (zBx (at_ ps k) (at_ ps ((k+1) % ps.length)) (at_ ps i) (at_ ps ((i+1) % ps.length))))).tS))::(53, .s ((uB ((zBx (at_ ps k) (at_ ps ((k+1) % ps.length)) (at_ ps i) (at_ ps ((i+1) % ps.length)))==0)).tS))::(6, .u (uB ((zBx (at_ ps k) (at_ ps ((k+1) % ps.length)) (at_ ps i) (at_ ps ((i+1) % ps.length)))==0))):: []) hmix s kJ
   (oc (zJ (C:=(CU.agg (fMT (zBx (at_ ps k) (at_ ps ((k+1) % ps.length)) (at_ ps i) (at_ ps ((i+1) % ps.length))))).cf) 0 kJ)<|oc (jF (C:=(CU.agg (fMT (zBx (at_ ps k) (at_ ps ((k+1) % ps.length)) (at_ ps i) (at_ ps ((i+1) % ps.length))))).cf) (k:=0) kJ (h:=zF8 _))<|oc (zS .i8 (zBx (at_ ps k) (at_ ps ((k+1) % ps.length)) (at_ ps i) (at_ ps ((i+1) % ps.length))) 0 ((zBx (at_ ps k) (at_ ps ((k+1) % ps.length)) (at_ ps i) (at_ ps ((i+1) % ps.length)))==0) iiz iiz rfl rfl)<|oc zG<|zD) fun a w12 s=> ?_
  refine zA rfl ?_
  refine zXq ?_
  exact wD s (t:=6) rfl (fun v W h=>by rw [show zAB ps k i=_ from if_neg oQ];exact h)
theorem zHT {W:World} {l:Value} {ps:List V2} (hl:(SF.row 6 (pvs 80 ps)).p l W) (hn:ps.length<=1000000) (hpair: ∀i j,i<ps.length->j<ps.length->i≠j->zD5 (at_ ps i) (at_ ps j)):Calls prog 30 #[l] W (Ret W (fB (zDG ps)).tS):=by
 refine yB [(UF.eq l).tS] func30 rfl kJ ⟨rfl,trivial⟩ fun a s=> ?_
 replace s:=s.renew [(0, .u (UF.eq l))] (fmz ⟨.inr ⟨_,rfl, .head _⟩,fnz⟩)
 refine zXo ?_
 refine zB 1 ((2, .u (uB false)):: []) hmix s kJ
  (oc zG<|zD) fun a w1 s=> ?_
 refine zA rfl ?_
 refine zXo ?_
 refine zXo ?_
 refine zB 3 ((5, .s ((UF.eq l).tS))::(6, .s ((uI ((pvs 80 ps).length:Int)).tS))::(7, .u (uB (decide (ps.length<3)))):: []) hmix s kJ
  (oc zC<|oc (y4 (z:=6) (Cs:=pvs 80 ps) kJ (fun v W hb h=>(yZ hl h (s.up hb))) (fun _=>rfl))<|oc (zS .i64 ((pvs 80 ps).length:Int) 3 (decide (ps.length<3)) iiz iiz (by simp only [zXz];rw [decide_eq_decide];omega) rfl)<|zD) fun a w2 s=> ?_
 refine zA rfl ?_
 refine StS.cond s (decide (ps.length<3)) iiz (fun e=> ?_) (fun e=> ?_)
 ·refine zXo ?_
  replace s:=s.drop [2]
  refine zB 1 ((2, .u (uB false)):: []) hmix s kJ
   (oc zG<|zD) fun a w3 s=> ?_
  refine zA rfl ?_
  refine zXq ?_
  exact wD s (t:=2) rfl (fun v W h=>by rw [zIx (zXA e)];exact h)
 ·have h3:3<=ps.length:=by have:=zXJ e;omega
  refine zXp ?_
  refine zXo ?_
  refine zXo ?_
  refine zB 1 ((3, .u (uI 0)):: []) hmix s kJ
   (oc zG<|zD) fun a w4 s=> ?_
  refine zA rfl ?_
  refine zXs ?_
  refine zAx (fun i=>i<=ps.length/\ ∀i' k,i'<i->k<i'->((yY (at_ ps i') (at_ ps k)==0)|| !(zAB ps k i'))=false) (fun i=> [(0, .u (UF.eq l)),(3, .u (uI (i:Int)))]) (fun i=>ps.length - i) (0:Nat) (⟨zXN _,fun j k hj=>absurd hj (zXY _)⟩) (s.keepK _ (fmz ⟨mz3,fmz ⟨.head _,fnz⟩⟩)) fun i a w hx s=> ?_
  have hxi:=hx
  refine zXo ?_
  refine zXo ?_
  refine zB 4 ((8, .s ((uI (i:Int)).tS))::(9, .s ((UF.eq l).tS))::(10, .s ((uI ((pvs 80 ps).length:Int)).tS))::(11, .u (uB (decide ((i:Int)<((pvs 80 ps).length:Int))))):: []) hmix s kJ
   (oc zC<|oc zC<|oc (y4 (z:=6) (Cs:=pvs 80 ps) kJ (fun v W hb h=>(yZ hl h (s.up hb))) (fun _=>rfl))<|oc (zS .i64 (i:Int) ((pvs 80 ps).length:Int) (decide ((i:Int)<((pvs 80 ps).length:Int))) iiz iiz rfl rfl)<|zD) fun a w5 s=> ?_
  refine zA rfl ?_
  refine StS.cond s (decide ((i:Int)<((pvs 80 ps).length:Int))) iiz (fun e=> ?_) (fun e=> ?_)
  ·have hi:i<ps.length:=by have:=zXA e;simp at this;omega
   refine zXp ?_
   refine zXo ?_
   refine zXs ?_
   refine zXo ?_
   refine zB 1 ((4, .u (uI 0)):: []) hmix s kJ
    (oc zG<|zD) fun a w6 s=> ?_
   refine zA rfl ?_
   refine zXs ?_
   refine zAx (fun k=>k<=i/\ ∀k',k'<k->((yY (at_ ps i) (at_ ps k')==0)|| !(zAB ps k' i))=false) (fun k=> [(0, .u (UF.eq l)),(3, .u (uI (i:Int))),(4, .u (uI (k:Int)))]) (fun k=>i - k) (0:Nat) (⟨zXN _,fun j hj=>absurd hj (zXY _)⟩) (s.keepK _ (fmz ⟨mz2,fmz ⟨mz3,fmz ⟨.head _,fnz⟩⟩⟩)) fun k a w hx s=> ?_
   refine zXo ?_
   refine zXo ?_
   refine zB 3 ((14, .s ((uI (k:Int)).tS))::(15, .s ((uI (i:Int)).tS))::(16, .u (uB (decide ((k:Int)<(i:Int))))):: []) hmix s kJ
    (oc zC<|oc zC<|oc (zS .i64 (k:Int) (i:Int) (decide ((k:Int)<(i:Int))) iiz iiz rfl rfl)<|zD) fun a w7 s=> ?_
   refine zA rfl ?_
   refine StS.cond s (decide ((k:Int)<(i:Int))) iiz (fun e=> ?_) (fun e=> ?_)
   ·have hk:k<i:=by have:=zXA e;omega
    have hkl:k<ps.length:=by omega
    refine zXp ?_
    refine zXo ?_
    refine zXs ?_
    refine zXo ?_
    refine zB 16 ((19, .s ((UF.eq l).tS))::(20, .s ((uI (i:Int)).tS))::(21, .s (wB (CU.agg (fPV 80 (at_ ps i))).cf))::(22, .s ((fPV 80 (at_ ps i)).tS))::(23, .s ((UF.eq l).tS))::(24, .s ((uI (k:Int)).tS))::(25, .s (wB (CU.agg (fPV 80 (at_ ps k))).cf))::(26, .s ((fPV 80 (at_ ps k)).tS))::(27, .s ((uB (yY (at_ ps i) (at_ ps k)==0)).tS))::(28, .s ((uB (yY (at_ ps i) (at_ ps k)==0)).tS))::(29, .s (SF.imp ((yY (at_ ps i) (at_ ps k)==0)=false) ((UF.eq l).tS)))::(30, .s (SF.imp ((yY (at_ ps i) (at_ ps k)==0)=false) ((uI (k:Int)).tS)))::(31, .s (SF.imp ((yY (at_ ps i) (at_ ps k)==0)=false) ((uI (i:Int)).tS)))::(32, .s (SF.imp ((yY (at_ ps i) (at_ ps k)==0)=false) ((uB (zAB ps k i)).tS)))::(33, .s (SF.imp ((yY (at_ ps i) (at_ ps k)==0)=false) ((uB (!(zAB ps k i))).tS)))::(34, .u (uB ((yY (at_ ps i) (at_ ps k)==0)||(!(zAB ps k i))))):: []) hmix s kJ
     (oc zC<|oc zC<|oc (yJ (z:=6) (Cs:=pvs 80 ps) (i:=i) (C:=CU.agg (fPV 80 (at_ ps i))) kJ (qQ hi) (fun v W hb h=>(yZ hl h (s.up hb))) iiz)<|oc (zK (f:=fPV 80 (at_ ps i)) 6 kJ (hz:=zO _ _))<|oc zC<|oc zC<|oc (yJ (z:=6) (Cs:=pvs 80 ps) (i:=k) (C:=CU.agg (fPV 80 (at_ ps k))) kJ (qQ hkl) (fun v W hb h=>(yZ hl h (s.up hb))) iiz)<|oc (zK (f:=fPV 80 (at_ ps k)) 6 kJ (hz:=zO _ _))<|oc (zI zE zHo (fun u0 u1 W hb (h0:(fPV 80 (at_ ps i)).p u0 W) (h1:(fPV 80 (at_ ps k)).p u1 W)=>zBH (m:=80) h0 h1 dC dC))<|oc zC<|oc (zF 28 (yY (at_ ps i) (at_ ps k)==0) kJ iiz (fun e=>z4 [] ((UF.eq l).tS) fnz (fun _ _ h _=>h) kJ zC) (fun e W h=>absurd h e))<|oc (zF 28 (yY (at_ ps i) (at_ ps k)==0) kJ iiz (fun e=>z4 [] ((uI (k:Int)).tS) fnz (fun _ _ h _=>h) kJ zC) (fun e W h=>absurd h e))<|oc (zF 28 (yY (at_ ps i) (at_ ps k)==0) kJ iiz (fun e=>z4 [] ((uI (i:Int)).tS) fnz (fun _ _ h _=>h) kJ zC) (fun e W h=>absurd h e))<|oc (zF 28 (yY (at_ ps i) (at_ ps k)==0) kJ iiz (fun e=>z4 [(29,(UF.eq l).tS),(30,(uI (k:Int)).tS),(31,(uI (i:Int)).tS)] ((uB (zAB ps k i)).tS) (fmz ⟨fun v W h=>zQ (c:=(yY (at_ ps i) (at_ ps k)==0)=false) (f:=(UF.eq l).tS) e h,fmz ⟨fun v W h=>zQ (c:=(yY (at_ ps i) (at_ ps k)==0)=false) (f:=(uI (k:Int)).tS) e h,fmz ⟨fun v W h=>zQ (c:=(yY (at_ ps i) (at_ ps k)==0)=false) (f:=(uI (i:Int)).tS) e h,fnz⟩⟩⟩) (fun _ _ h _=>h) kJ (zBd zE zUB (fun u0 u1 u2 W hb (h0:u0=l) (h1:u1= .int .i64 (k:Int)) (h2:u2= .int .i64 (i:Int))=>zJM (ps:=ps) (k:=k) (i:=i) (yZ hl h0 (s.up hb)) h1 h2 hk hi hn h3 hpair))) (fun e W h=>absurd h e))<|oc (zF 28 (yY (at_ ps i) (at_ ps k)==0) kJ iiz (fun e=>z4 [(32,(uB (zAB ps k i)).tS)] ((uB (!(zAB ps k i))).tS) (fmz ⟨fun v W h=>zQ (c:=(yY (at_ ps i) (at_ ps k)==0)=false) (f:=(uB (zAB ps k i)).tS) e h,fnz⟩) (fun _ _ h _=>h) kJ (zCQ (zAB ps k i) iiz (fun _=>rfl))) (fun e W h=>absurd h e))<|oc (y6 (yY (at_ ps i) (at_ ps k)==0) iiz (fun e v W h=>zEL h e) (fun e v W h=>zDk (zQ e h) e))<|zD) fun a w8 s=> ?_
    refine zA rfl ?_
    refine StS.cond s ((yY (at_ ps i) (at_ ps k)==0)||(!(zAB ps k i))) iiz (fun e=> ?_) (fun e=> ?_)
    ·refine zXo ?_
     refine zB 1 ((2, .u (uB false)):: []) hmix s kJ
      (oc zG<|zD) fun a w9 s=> ?_
     refine zA rfl ?_
     refine zXq ?_
     exact wD s (t:=2) rfl (fun v W h=>by rw [zQn hi hk e];exact h)
    ·refine zXp ?_
     refine zY 2 ((17, .s ((uI (k:Int)).tS))::(18, .u (uI ((k+1:Nat):Int))):: []) s kJ
      (oc zC<|oc (yR .i64 (k:Int) 1 ((k+1:Nat):Int) iiz iiz (wrap64 _ _ oQ oQ))<|zD) fun a w10 s=> ?_
     replace s:=s.drop [4]
     refine yU (uI ((k+1:Nat):Int)) rfl s kJ iiz fun a w s=> ?_
     refine zA rfl ?_
     exact ⟨k+1,⟨hk,fun j hj=>by rcases zXG (zXO hj) with h|h;exact hx.2 j h;rw [h];exact e⟩,(by show i - (k+1)<i - k;omega),s.keepK _ (fmz ⟨mz4,fmz ⟨mz5,fmz ⟨.head _,fnz⟩⟩⟩)⟩
   ·have hk:k=i:=by have h7:=zXJ e;have h8:=hx.1;omega
    refine zXP ?_
    refine zY 2 ((12, .s ((uI (i:Int)).tS))::(13, .u (uI ((i+1:Nat):Int))):: []) s kJ
     (oc zC<|oc (yR .i64 (i:Int) 1 ((i+1:Nat):Int) iiz iiz (wrap64 _ _ oQ oQ))<|zD) fun a w11 s=> ?_
    replace s:=s.drop [3]
    refine yU (uI ((i+1:Nat):Int)) rfl s kJ iiz fun a w s=> ?_
    refine zA rfl ?_
    exact ⟨i+1,⟨hi,fun j k hj hk=>by rcases zXG (zXO hj) with h|h;exact hxi.2 j k h hk;rw [h];exact hx.2 k oQ⟩,(by show ps.length - (i+1)<ps.length - i;omega),s.keepK _ (fmz ⟨mz3,fmz ⟨.head _,fnz⟩⟩)⟩
  ·have hi:i=ps.length:=by have h7:=zXJ e;have h8:=hx.1;simp at h7;omega
   refine zXP ?_
   refine zXo ?_
   refine zB 1 ((2, .u (uB true)):: []) hmix s kJ
    (oc zG<|zD) fun a w12 s=> ?_
   refine zA rfl ?_
   refine zXq ?_
   exact wD s (t:=2) rfl (fun v W h=>by rw [zNg h3 (fun j k hj hk'=>hx.2 j k oQ hk')];exact h)
end Go.Proofs.Wd

namespace Go.Proofs.Wd
open Tryz
theorem zMt {f:Nat->Bool}: ∀{n:Nat},(∀k,k<n->f k=false)->zE7 f n=0
 |0,_=>rfl
 |n+1,h=>by rw [zMv (h n oQ),zMt fun k hk=>h k oQ]
theorem zJj {f:Nat->Bool} {r s:Nat} (hrs:r≠s): ∀{n:Nat},(∀k,k<n->k≠r->k≠s->f k=false)->zE7 f n=(if r<n/\f r=true then 1 else 0)+(if s<n/\f s=true then 1 else 0)
 |0,_=>by rw [if_neg oQ,if_neg oQ];rfl
 | n+1,h=>by
  have ih:=zJj hrs (n:=n) fun k hk=>h k oQ
  by_cases e:f n=true
  ·rw [zPO e,ih]
   by_cases hr:n=r
   ·subst hr
    rw [if_neg (show ¬(n<n/\f n=true) by omega),if_pos (show n<n+1/\f n=true from ⟨by omega,e⟩)]
    by_cases c:s<n/\f s=true
    ·rw [if_pos c,if_pos ⟨by omega,c.2⟩]
    ·rw [if_neg c,if_neg (fun c'=>c ⟨by omega,c'.2⟩)]
   ·by_cases hs:n=s
    ·subst hs
     rw [if_neg (show ¬(n<n/\f n=true) by omega),if_pos (show n<n+1/\f n=true from ⟨by omega,e⟩)]
     by_cases c:r<n/\f r=true
     ·rw [if_pos c,if_pos ⟨by omega,c.2⟩]
     ·rw [if_neg c,if_neg (fun c'=>c ⟨by omega,c'.2⟩)]
    ·rw [h n oQ hr hs] at e;exact absurd e dC
  ·have e':f n=false:=by simpa using e
   rw [zMv e',ih]
   have k: ∀x,(x<n+1/\f x=true)↔(x<n/\f x=true):=fun x=>⟨fun ⟨a,b⟩=>⟨by
    rcases zXG (zXO a) with q|q
    ·exact q
    ·rw [q] at b;exact absurd b e,b⟩,fun ⟨a,b⟩=>⟨by omega,b⟩⟩
   simp only [k]
theorem zTH {a b:V2} {y:Rat} (h1:a.2<=y) (h2:y<b.2): ∃X t:Rat,0<=t/\t<1/\(∀f:Aff,f.v (X,y)=f.v a*(1 - t)+f.v b*t)/\ ∀x,crs a b (x,y)=(b.2 - a.2)*(X - x):=by
 have hd:0<b.2 - a.2:=by grind
 have e:(y - a.2) / (b.2 - a.2)*(b.2 - a.2)=y - a.2:=zXT (by grind)
 generalize (y - a.2) / (b.2 - a.2)=t at e
 have t0:0<=t:=by
  apply zXv
  intro hx
  have:=zXx (show 0< -t by grind) hd
  grind
 have t1:t<1:=by
  apply zXv
  intro hx
  have:=zXu (show 0<=t - 1 by grind) (zXy hd)
  grind
 refine ⟨a.1+(b.1 - a.1)*t,t,t0,t1,fun f=> ?_,fun x=> ?_⟩
 ·have hy:y=a.2+(b.2 - a.2)*t:=by grind
  unfold Aff.v
  simp only
  rw [hy]
  grind
 ·unfold crs
  simp only
  have:(b.1 - a.1)*(y - a.2)=(b.1 - a.1)*t*(b.2 - a.2):=by rw [<-e];grind
  rw [this]
  grind
theorem zVi {u v t:Rat} (hu:0<=u) (hv:0<=v) (h0:0<=t) (h1:t<=1):0<=u*(1 - t)+v*t:=by
 have k1:=zXu hu (show 0<=1 - t by grind)
 have k2:=zXu hv h0
 grind
def nx (l:List V2) (k:Nat):Nat:=(k+1) % l.length
theorem zQ6 {l:List V2} (h:0<l.length) (k:Nat):nx l k<l.length:=zXM _ h
theorem zQ5 {l:List V2} (h3:3<=l.length) {i:Nat} (hi:i<l.length):nx l i≠i/\nx l (nx l i)≠i/\nx l (nx l i)≠nx l i:=by
 unfold nx
 rcases zXR (i+1) l.length with q|q
 ·rw [zXr q]
  rcases zXR (i+1+1) l.length with q'|q'
  ·rw [zXr q'];omega
  ·rw [show i+1+1=l.length by omega,zXH];omega
 ·rw [show i+1=l.length by omega,zXH,zXr (show 0+1<l.length by omega)];omega
theorem zSF {l:List V2} {i j:Nat} (hi:i<l.length) (hj:j<l.length) (h:nx l i=nx l j):i=j:=by
 unfold nx at h
 rcases zXR (i+1) l.length with q|q<;>rcases zXR (j+1) l.length with q'|q'
 ·rw [zXr q,zXr q'] at h;omega
 ·rw [zXr q,show j+1=l.length by omega,zXH] at h;omega
 ·rw [show i+1=l.length by omega,zXH,zXr q'] at h;omega
 ·omega
theorem zKD {a b p:V2}:(zBg a b p=1)↔0<crs a b p:=by
 unfold zBg
 have h:=@Rat.num_nonneg (crs a b p)
 have h0:=@zXZ (crs a b p)
 rw [Int.sign_eq_one_iff_pos]
 constructor
 ·intro k
  have k1:=h.1 oQ
  have k2:crs a b p≠0:=fun e=>by have:=h0.2 e;omega
  grind
 ·intro k
  have k1:=h.2 (zXy k)
  have k2:(crs a b p).num≠0:=fun e=>by have:=h0.1 e;grind
  omega
theorem zJB {a b p:V2}:(zBg a b p=0)↔crs a b p=0:=by
 unfold zBg
 rw [Int.sign_eq_zero_iff_zero,zXZ]
theorem qle {p q:Rat}:qsg p q<=0↔p<=q:=by
 rcases zEI p q with e|e|e
 ·rw [e];exact ⟨fun _=>zXy (zGY.1 e),fun _=>by decide⟩
 ·rw [e];exact ⟨fun _=>by rw [zCh.1 e];exact zXB,fun _=>by decide⟩
 ·rw [e];exact ⟨fun h=>absurd h dC,fun h=>absurd (zGZ.1 e) (zXU.2 h)⟩
theorem qlt {p q:Rat}:qsg p q<0↔p<q:=by
 rcases zEI p q with e|e|e
 ·rw [e];exact ⟨fun _=>zGY.1 e,fun _=>by decide⟩
 ·rw [e];exact ⟨fun h=>absurd h dC,fun h=>by rw [zCh.1 e] at h;exact absurd h (Rat.lt_irrefl)⟩
 ·rw [e];exact ⟨fun h=>absurd h dC,fun h=>absurd (zGZ.1 e) (zXU.2 (zXy h))⟩
theorem qgt {p q:Rat}:qsg p q>0↔q<p:=by
 have:=qlt (p:=q) (q:=p)
 rw [zFV p q] at this
 exact ⟨fun h=>this.1 oQ,fun h=>by have:=this.2 h;omega⟩
theorem zPN {a b r:Rat} (h:zTK a b r=true):(a<=r/\r<=b)∨(b<=r/\r<=a):=by
 unfold zTK zVh at h
 rw [zXK,zX0] at h
 obtain ⟨h1,h2⟩:=h
 rcases zEI a r with e|e|e
 ·have k:=zGY.1 e
  rw [e] at h1
  have:qsg r b<=0:=by omega
  exact .inl ⟨zXy k,qle.1 this⟩
 ·have k:=zCh.1 e
  rw [k]
  rcases (zXL:r<=b∨b<=r) with q|q
  ·exact .inl ⟨zXB,q⟩
  ·exact .inr ⟨q,zXB⟩
 ·have k:=zGZ.1 e
  rw [e] at h1
  have h1':0<=qsg r b:=by omega
  have:b<=r:=by
   rcases zEI r b with q|q|q
   ·omega
   ·rw [zCh.1 q];exact zXB
   ·exact zXy (zGZ.1 q)
  exact .inr ⟨this,zXy k⟩
theorem zVB {a b p:V2} (hab:a≠b) (h:onB a b p=true):OnE a b p:=by
 unfold onB at h
 rw [zXK,zXK,zXw,zJB] at h
 obtain ⟨⟨h0,h1⟩,h2⟩:=h
 have c1:=zPN h1
 have c2:=zPN h2
 have key: ∀{d e n:Rat},d≠0->((0<=e/\e<=d)∨(d<=e/\e<=0))-> ∃t:Rat,0<=t/\t<=1/\d*t=e:=fun {d e n} hd hb=>by
  have q:e / d*d=e:=zXT hd
  generalize e / d=t at q
  refine ⟨t, ?_, ?_,by grind⟩
  ·apply zXv
   intro hx
   rcases (zXL:0<=d∨d<=0) with k|k
   ·have:=zXx (show 0< -t by grind) (show 0<d by grind);grind
   ·have:=zXx (show 0< -t by grind) (show 0< -d by grind);grind
  ·apply zXv
   intro hx
   rcases (zXL:0<=d∨d<=0) with k|k
   ·have:=zXx (show 0<t - 1 by grind) (show 0<d by grind);grind
   ·have:=zXx (show 0<t - 1 by grind) (show 0< -d by grind);grind
 unfold crs at h0
 by_cases e:b.1 - a.1=0
 ·have e2:b.2 - a.2≠0:=fun e2=>hab (zXt (by grind) (by grind))
  obtain ⟨t,t0,t1,t2⟩:=key (d:=b.2 - a.2) (e:=p.2 - a.2) (n:=0) e2 (by grind)
  exact ⟨t,t0,t1,zXt (by show p.1=_;grind) (by show p.2=_;grind)⟩
 ·obtain ⟨t,t0,t1,t2⟩:=key (d:=b.1 - a.1) (e:=p.1 - a.1) (n:=0) e (by grind)
  refine ⟨t,t0,t1,zXt (by show p.1=_;grind) ?_⟩
  show p.2=a.2+(b.2 - a.2)*t
  rw [<-t2] at h0
  have:(b.1 - a.1)*((p.2 - a.2) - (b.2 - a.2)*t)=0:=by grind
  rcases Rat.mul_eq_zero.1 this with k|k
  ·exact absurd k e
  ·grind
theorem Conv.ne' {l:List V2} (h:Conv l) {i:Nat} (hi:i<l.length):at_ l i≠at_ l (nx l i):=fun e=>by
 have h3:=h.three
 have n:=zQ5 h3 hi
 have k:=h.strict i (nx l (nx l i)) hi (zQ6 oQ _) n.2.1 n.2.2
 unfold edg at k
 rw [show (i+1) % l.length=nx l i from rfl, <-e] at k
 unfold crs at k
 grind
theorem zSA {a b p:V2} (h0:crs a b p=0) (h1:zIe (p.1 - a.1,p.2 - a.2) (p.1 - b.1,p.2 - b.2)<=0):onS a b p=true:=by
 unfold onS
 rw [if_neg (by rw [h0];decide)]
 refine zXE ?_
 have h:=@Rat.num_nonneg (zIe (p.1 - a.1,p.2 - a.2) (p.1 - b.1,p.2 - b.2))
 have h0:=@zXZ (zIe (p.1 - a.1,p.2 - a.2) (p.1 - b.1,p.2 - b.2))
 generalize zIe (p.1 - a.1,p.2 - a.2) (p.1 - b.1,p.2 - b.2)=q at*
 rcases Int.lt_trichotomy q.num 0 with k|k|k
 ·rw [Int.sign_eq_neg_one_of_neg k];decide
 ·rw [k];decide
 ·exfalso
  have k1:=h.1 oQ
  have:q=0:=by grind
  have:=h0.2 this
  omega
theorem zNW {a b p:V2} (h:OnE a b p):onS a b p=true:=by
 refine zSA h.crs ?_
 obtain ⟨t,t0,t1,rfl⟩:=h
 have k1:=zXu t0 (show 0<=1 - t by grind)
 have sq: ∀x:Rat,0<=x*x:=fun x=>by
  rcases (zXL:0<=x∨x<=0) with k|k
  ·exact zXu k k
  ·have:=zXu (show 0<=-x by grind) (show 0<=-x by grind);grind
 have k2:=zXu k1 (show 0<=(b.1 - a.1)*(b.1 - a.1)+(b.2 - a.2)*(b.2 - a.2) by have:=sq (b.1 - a.1);have:=sq (b.2 - a.2);grind)
 unfold zIe
 simp only
 grind
theorem zQY (a b:V2):OnE a b a:=⟨0,by decide,by decide,zXt (by show a.1=a.1+(b.1 - a.1)*0;grind) (by show a.2=a.2+(b.2 - a.2)*0;grind)⟩
theorem zSB (a b:V2):OnE a b b:=⟨1,by decide,by decide,zXt (by show b.1=a.1+(b.1 - a.1)*1;grind) (by show b.2=a.2+(b.2 - a.2)*1;grind)⟩
theorem zQR {L:List V2} {p:V2}:L≠ []->zFX L p≠ []:=fun h=>by
 unfold zFX
 split
 ·exact h
 ·simp
theorem zNJ (L:List V2) (p:V2):zFX L p≠ []:=by
 unfold zFX
 split
 ·rename_i h
  rw [zXK,zX0] at h
  intro e
  rw [e] at h
  exact absurd h.1 (by simp)
 ·simp
theorem zMg {a b c d:V2}: ∀(n i:Nat),i<n->(onS a b (at_ [a,b,c,d] i)&&onS c d (at_ [a,b,c,d] i))=true->yQ a b c d n≠ []
 | n+1,i,hi,h=>by
  show (if _ then _ else _)≠ []
  by_cases e:i=n
  ·subst e
   rw [if_pos h]
   exact zNJ _ _
  ·have ih:=zMg n i oQ h
   split
   ·exact zQR ih
   ·exact ih
theorem zNj {a b c d:V2} (hab:a≠b) (hk:zBx a b c d=0) {z:V2} (h1:OnE a b z) (h2:OnE c d z):False:=by
 have hpl:(pns (yQ a b c d 4)).length=(yQ a b c d 4).length:=by simp [pns]
 unfold zBx at hk
 rw [hpl] at hk
 have hl0: ¬(((yQ a b c d 4).length:Int)≥2):=fun e=>by rw [if_pos e] at hk;exact absurd hk dC
 rw [if_neg hl0] at hk
 have hl1: ¬(((yQ a b c d 4).length:Int)==1)=true:=fun e=>by rw [if_pos e] at hk;exact absurd hk dC
 rw [if_neg hl1] at hk
 have hp: ¬((!(decide (dnm a b c d=0))&&onS a b (y8 a b c d))&&onS c d (y8 a b c d))=true:=fun e=>by rw [if_pos e] at hk;exact absurd hk dC
 have hnil:yQ a b c d 4= []:=by
  rw [zXw] at hl1
  exact List.eq_nil_of_length_eq_zero oQ
 have no: ∀i,i<4-> ¬(OnE a b (at_ [a,b,c,d] i)/\OnE c d (at_ [a,b,c,d] i)):=fun i hi ⟨k1,k2⟩=>zMg 4 i hi (by rw [zNW k1,zNW k2];rfl) hnil
 have hz:=h2.crs
 by_cases hd:dnm a b c d=0
 ·-- on one line
  have na:=no 0 oQ
  have nb:=no 1 oQ
  have nc:=no 2 oQ
  have ndd:=no 3 oQ
  have na': ¬OnE c d a:=fun k=>na ⟨zQY a b,k⟩
  have nb': ¬OnE c d b:=fun k=>nb ⟨zSB a b,k⟩
  have nc': ¬OnE a b c:=fun k=>nc ⟨k,zQY c d⟩
  have nd': ¬OnE a b d:=fun k=>ndd ⟨k,zSB c d⟩
  obtain ⟨t,t0,t1,e1⟩:=h1
  obtain ⟨s,s0,s1,e2⟩:=h2
  have u0:((b.1 - a.1,b.2 - a.2):V2)≠(0,0):=fun e=>hab (by
   have q1:=congrArg Prod.fst e
   have q2:=congrArg Prod.snd e
   simp only at q1 q2
   exact zXt (by grind) (by grind))
  have hN:=zIt u0
  simp only at hN
  generalize hN':(b.1 - a.1)*(b.1 - a.1)+(b.2 - a.2)*(b.2 - a.2)=N at hN
  -- places on the line, in parts of a - b
  have zx:z.1=a.1+(b.1 - a.1)*t:=by rw [e1]
  have zy:z.2=a.2+(b.2 - a.2)*t:=by rw [e1]
  have zx':z.1=c.1+(d.1 - c.1)*s:=by rw [e2]
  have zy':z.2=c.2+(d.2 - c.2)*s:=by rw [e2]
  unfold dnm at hd
  -- d - c is along b - a
  have par: ∃m:Rat,d.1 - c.1=(b.1 - a.1)*m/\d.2 - c.2=(b.2 - a.2)*m:=by
   have q:((d.1 - c.1)*(b.1 - a.1)+(d.2 - c.2)*(b.2 - a.2)) / N*N=(d.1 - c.1)*(b.1 - a.1)+(d.2 - c.2)*(b.2 - a.2):=zXT (by grind)
   generalize ((d.1 - c.1)*(b.1 - a.1)+(d.2 - c.2)*(b.2 - a.2)) / N=m at q
   have canc: ∀{x:Rat},x*N=0->x=0:=fun {x} hx=>by
    rcases Rat.mul_eq_zero.1 hx with k|k
    ·exact k
    ·grind
   refine ⟨m, ?_, ?_⟩
   ·have:(d.1 - c.1 - (b.1 - a.1)*m)*N=0:=by
     have e:(b.1 - a.1)*m*N=(b.1 - a.1)*((d.1 - c.1)*(b.1 - a.1)+(d.2 - c.2)*(b.2 - a.2)):=by rw [<-q];grind
     have:(d.1 - c.1 - (b.1 - a.1)*m)*N=(d.1 - c.1)*N - (b.1 - a.1)*m*N:=by grind
     rw [this,e, <-hN']
     grind
    have:=canc this
    grind
   ·have:(d.2 - c.2 - (b.2 - a.2)*m)*N=0:=by
     have e:(b.2 - a.2)*m*N=(b.2 - a.2)*((d.1 - c.1)*(b.1 - a.1)+(d.2 - c.2)*(b.2 - a.2)):=by rw [<-q];grind
     have:(d.2 - c.2 - (b.2 - a.2)*m)*N=(d.2 - c.2)*N - (b.2 - a.2)*m*N:=by grind
     rw [this,e, <-hN']
     grind
    have:=canc this
    grind
  obtain ⟨m,m1,m2⟩:=par
  -- c at t - m s, d at t + m (1 - s)
  have cx:c.1=a.1+(b.1 - a.1)*(t - m*s):=by rw [m1] at zx';grind
  have cy:c.2=a.2+(b.2 - a.2)*(t - m*s):=by rw [m2] at zy';grind
  have dx:d.1=a.1+(b.1 - a.1)*(t - m*s+m):=by grind
  have dy:d.2=a.2+(b.2 - a.2)*(t - m*s+m):=by grind
  have kc: ¬(0<=t - m*s/\t - m*s<=1):=fun k=>nc' ⟨_,k.1,k.2,zXt cx cy⟩
  have kd: ¬(0<=t - m*s+m/\t - m*s+m<=1):=fun k=>nd' ⟨_,k.1,k.2,zXt dx dy⟩
  -- a at the part r of c - d
  have onx: ∀x:Rat,((t - m*s<=x/\x<=t - m*s+m)∨(t - m*s+m<=x/\x<=t - m*s))->OnE c d (a.1+(b.1 - a.1)*x,a.2+(b.2 - a.2)*x):=fun x hx=>by
   by_cases hm:m=0
   ·have:x=t - m*s:=by subst hm;grind
    rw [this]
    have:=zQY c d
    rwa [show c=(a.1+(b.1 - a.1)*(t - m*s),a.2+(b.2 - a.2)*(t - m*s)) from zXt cx cy] at this ⊢
   ·have q:(x - (t - m*s)) / m*m=x - (t - m*s):=zXT hm
    generalize (x - (t - m*s)) / m=r at q
    refine ⟨r, ?_, ?_,zXt (by show _=c.1+(d.1 - c.1)*r;rw [m1,cx];grind) (by show _=c.2+(d.2 - c.2)*r;rw [m2,cy];grind)⟩
    ·apply zXv
     intro hr
     rcases (zXL:0<=m∨m<=0) with k|k
     ·have:=zXx (show 0< -r by grind) (show 0<m by grind);grind
     ·have:=zXx (show 0< -r by grind) (show 0< -m by grind);grind
    ·apply zXv
     intro hr
     rcases (zXL:0<=m∨m<=0) with k|k
     ·have:=zXx (show 0<r - 1 by grind) (show 0<m by grind);grind
     ·have:=zXx (show 0<r - 1 by grind) (show 0< -m by grind);grind
  have onxa: ¬((t - m*s<=0/\0<=t - m*s+m)∨(t - m*s+m<=0/\0<=t - m*s)):=fun k=>na' (by
   have:=onx 0 k
   rwa [show ((a.1+(b.1 - a.1)*0,a.2+(b.2 - a.2)*0):V2)=a from zXt (by show a.1+_*0=a.1;grind) (by show a.2+_*0=a.2;grind)] at this)
  -- t lies between the two
  have bt:(t - m*s<=t/\t<=t - m*s+m)∨(t - m*s+m<=t/\t<=t - m*s):=by
   rcases (zXL:0<=m∨m<=0) with k|k
   ·have:=zXu k s0
    have:=zXu k (show 0<=1 - s by grind)
    exact .inl ⟨by grind,by grind⟩
   ·have:=zXu (show 0<=-m by grind) s0
    have:=zXu (show 0<=-m by grind) (show 0<=1 - s by grind)
    exact .inr ⟨by grind,by grind⟩
  generalize t - m*s=x at*
  generalize x+m=y at*
  grind
 ·-- the lines' one point
  obtain ⟨t,t0,t1,e1⟩:=h1
  have e3:crs c d (seg a b t)=tnm a c d - t*dnm a b c d:=by
   unfold crs seg tnm dnm
   grind
  have e4:z=seg a b t:=e1
  rw [e4,e3] at hz
  have et:tnm a c d / dnm a b c d=t:=by
   rw [show tnm a c d=t*dnm a b c d by grind]
   rw [Rat.div_def,Rat.mul_assoc,Rat.mul_inv_cancel _ hd,Rat.mul_one]
  have ez:y8 a b c d=z:=by
   unfold y8
   rw [if_neg hd,et,e4]
  refine hp ?_
  rw [ez,zNW ⟨t,t0,t1,e1⟩,zNW h2,zXC hd]
  rfl
theorem zJk {p q:V2} (h:p=q):(yY p q==0)=true:=by
 subst h
 unfold yY
 rw [if_pos (zCh.2 rfl),zCh.2 rfl]
 rfl
theorem zKC {l:List V2} (h:zDG l=true) (hl: ∀i,i<l.length->0<crs (at_ l i) (at_ l ((i+1) % l.length)) (at_ l ((i+2) % l.length))):Conv l:=by
 unfold zDG at h
 rw [zXK,zX0,zXF] at h
 obtain ⟨h3,h⟩:=h
 have good: ∀i k,k<i->i<l.length->(yY (at_ l i) (at_ l k)==0)=false/\zAB l k i=true:=fun i k hk hi=>by
  have:=zXF.1 (h i (zXD.2 hi)) k (zXD.2 hk)
  unfold zOq at this
  rw [Bool.not_eq_true',zXS,Bool.not_eq_false'] at this
  exact this
 have ne: ∀i k,i<l.length->k<l.length->i≠k->at_ l i≠at_ l k:=fun i k hi hk hik e=>by
  rcases Nat.lt_or_gt_of_ne hik with q|q
  ·have:=(good k i q hk).1
   rw [zJk e.symm] at this
   exact absurd this dC
  ·have:=(good i k q hi).1
   rw [zJk e] at this
   exact absurd this dC
 have nxe: ∀k,k<l.length->(k+1) % l.length=if k+1=l.length then 0 else k+1:=fun k hk=>by
  split
  ·rename_i e;rw [e,zXH]
  ·exact zXr oQ
 have ap: ∀k i,k<i->i<l.length->i≠(k+1) % l.length->k≠(i+1) % l.length-> ∀z,OnE (at_ l k) (at_ l ((k+1) % l.length)) z->OnE (at_ l i) (at_ l ((i+1) % l.length)) z->False:=fun k i hki hi h1 h2 z o1 o2=>by
  have:=(good i k hki hi).2
  unfold zAB at this
  rw [nxe k oQ] at h1
  rw [nxe i hi] at h2
  rw [if_neg (by
   rintro (e|⟨e,e'⟩)
   ·rw [if_neg oQ] at h1;omega
   ·rw [if_pos oQ] at h2;omega)] at this
  refine zNj (ne k _ oQ (zXM _ oQ) ?_) (zXw.1 this) o1 o2
  rw [nxe k oQ]
  split<;>omega
 refine vN ⟨h3,hl,fun i j hi hj hij h1 h2 z o1 o2=> ?_,ne⟩
 rcases Nat.lt_or_gt_of_ne hij with q|q
 ·exact ap i j q hj h1 h2 z o1 o2
 ·exact ap j i q hi h2 h1 z o2 o1
end Go.Proofs.Wd

namespace Go.Proofs.Wd
open Tryz
theorem zMw (p q:V2):yY q p= - yY p q:=by
 unfold yY
 have e1:=zFV p.1 q.1
 have e2:=zFV p.2 q.2
 by_cases h:qsg p.1 q.1=0
 ·rw [if_pos h,if_pos oQ];exact e2
 ·rw [if_neg h,if_neg oQ];exact e1
theorem zHr {p q:V2}:yY p q=0↔p=q:=by
 constructor
 ·intro h
  unfold yY at h
  by_cases e:qsg p.1 q.1=0
  ·rw [if_pos e] at h
   exact zXt (zCh.1 e) (zCh.1 h)
  ·rw [if_neg e] at h
   exact absurd h e
 ·intro h
  subst h
  unfold yY
  rw [if_pos (zCh.2 rfl),zCh.2 rfl]
theorem zJl {p q:V2}:(yY p q==0)=true↔p=q:=by rw [zXw,zHr]
theorem Conv.inj {l:List V2} (h:Conv l) {i j:Nat} (hi:i<l.length) (hj:j<l.length) (e:at_ l i=at_ l j):i=j:=by
 apply zXv
 intro hne
 by_cases h1:j=nx l i
 ·subst h1
  exact h.ne' hi e
 ·have:=h.strict i j hi hj (fun e=>hne e.symm) h1
  rw [<-e] at this
  unfold edg crs at this
  grind
theorem zOE {ps:List V2} (h:Conv ps) {j:Nat} (hj:j<ps.length):yY (zX ps j).1 (zX ps j).2<0:=by
 have h3:=h.three
 have hn:=zQ5 h3 hj
 have hne:yY (at_ ps j) (at_ ps ((j+1) % ps.length))≠0:=fun e=>hn.1 (h.inj hj (zQ6 oQ j) (zHr.1 e)).symm
 by_cases c:yY (at_ ps j) (at_ ps ((j+1) % ps.length))>0
 ·rw [zIc (zXE c)]
  show yY (at_ ps ((j+1) % ps.length)) (at_ ps j)<0
  rw [zMw]
  omega
 ·rw [zId (zXC c)]
  show yY (at_ ps j) (at_ ps ((j+1) % ps.length))<0
  omega
def zFt (ps:List V2) (i j:Nat):Bool:=(yY (zX ps j).1 (at_ ps i)==0)||(yY (zX ps j).2 (at_ ps i)==0)
theorem zGl {ps:List V2} (h:Conv ps) {i j:Nat} (hi:i<ps.length) (hj:j<ps.length):zFt ps i j=true↔j=i∨nx ps j=i:=by
 have h3:=h.three
 have hnj:=zQ6 (l:=ps) oQ j
 have k1:(at_ ps j=at_ ps i)↔j=i:=⟨fun e=>h.inj hj hi e,fun e=>by rw [e]⟩
 have k2:(at_ ps ((j+1) % ps.length)=at_ ps i)↔nx ps j=i:=⟨fun e=>h.inj hnj hi e,fun e=>by rw [<-e];rfl⟩
 unfold zFt
 rw [Bool.or_eq_true,zJl,zJl]
 by_cases c:yY (at_ ps j) (at_ ps ((j+1) % ps.length))>0
 ·rw [zIc (zXE c)]
  show (at_ ps ((j+1) % ps.length)=at_ ps i∨at_ ps j=at_ ps i)↔_
  rw [k1,k2,Or.comm]
 ·rw [zId (zXC c)]
  show (at_ ps j=at_ ps i∨at_ ps ((j+1) % ps.length)=at_ ps i)↔_
  rw [k1,k2]
theorem zMZ {ps:List V2} (h:Conv ps) {i:Nat} (hi:i<ps.length):zE7 (zFt ps i) ps.length=2:=by
 have h3:=h.three
 obtain ⟨j,hj,hj1,_,_,_⟩:=zQT h3 hi
 have hji:i≠j:=fun e=>by
  have:=zQ5 h3 hj
  rw [show nx ps j=i from hj1,e] at this
  exact this.1 rfl
 rw [zJj hji fun k hk h1 h2=> ?_]
 ·rw [if_pos ⟨hi,(zGl h hi hi).2 (.inl rfl)⟩,if_pos ⟨hj,(zGl h hi hj).2 (.inr hj1)⟩]
 ·cases e:zFt ps i k with
  |false=>rfl
  |true=>
   rcases (zGl h hi hk).1 e with e|e
   ·exact absurd e h1
   ·exact absurd (zSF hk hj (e.trans hj1.symm)) h2
theorem zPo (a b:Rat):mnR a b<=a/\mnR a b<=b:=by
 unfold mnR
 by_cases e:qsg b a<0
 ·rw [if_pos (zXE e)]
  have:=qlt.1 e
  exact ⟨zXy this,zXB⟩
 ·rw [if_neg (by rw [zXC e];decide)]
  exact ⟨zXB,zXU.1 fun k=>e (qlt.2 k)⟩
theorem zPn (a b:Rat):a<=mxR a b/\b<=mxR a b:=by
 unfold mxR
 by_cases e:qsg b a>0
 ·rw [if_pos (zXE e)]
  have:=qgt.1 e
  exact ⟨zXy this,zXB⟩
 ·rw [if_neg (by rw [zXC e];decide)]
  exact ⟨zXB,zXU.1 fun k=>e (qgt.2 k)⟩
theorem zPV {ps:List V2}: ∀k j,j<k->(bLo ps k).1<=(at_ ps j).1/\(bLo ps k).2<=(at_ ps j).2
 | k+1,j,hj=>by
  show mnR (bLo ps k).1 (at_ ps k).1<=_/\mnR (bLo ps k).2 (at_ ps k).2<=_
  have m1:=zPo (bLo ps k).1 (at_ ps k).1
  have m2:=zPo (bLo ps k).2 (at_ ps k).2
  rcases zXG (zXO hj) with q|q
  ·have ih:=zPV (ps:=ps) k j q
   exact ⟨zXV m1.1 ih.1,zXV m2.1 ih.2⟩
  ·rw [q];exact ⟨m1.2,m2.2⟩
theorem zPX {ps:List V2}: ∀k j,j<k->(at_ ps j).1<=(bHi ps k).1/\(at_ ps j).2<=(bHi ps k).2
 | k+1,j,hj=>by
  show _<=mxR (bHi ps k).1 (at_ ps k).1/\_<=mxR (bHi ps k).2 (at_ ps k).2
  have m1:=zPn (bHi ps k).1 (at_ ps k).1
  have m2:=zPn (bHi ps k).2 (at_ ps k).2
  rcases zXG (zXO hj) with q|q
  ·have ih:=zPX (ps:=ps) k j q
   exact ⟨zXV ih.1 m1.1,zXV ih.2 m2.1⟩
  ·rw [q];exact ⟨m1.2,m2.2⟩
theorem zGq {ps:List V2} {p:V2} (hp:p∈ps):((yM ps).1<=p.1/\p.1<=(yN ps).1)/\((yM ps).2<=p.2/\p.2<=(yN ps).2):=by
 obtain ⟨j,hj,rfl⟩:=zLF hp
 have hn:ps.length≠0:=by omega
 unfold yM yN
 rw [if_neg hn,if_neg hn]
 have a:=zPV (ps:=ps) ps.length j hj
 have b:=zPX (ps:=ps) ps.length j hj
 exact ⟨⟨a.1,b.1⟩,⟨a.2,b.2⟩⟩
theorem zOl {lo hi x:V2}:zPt lo hi x=true↔(lo.1<=x.1/\x.1<=hi.1)/\(lo.2<=x.2/\x.2<=hi.2):=by
 unfold zPt
 rw [zXK,zJr,zJr]
theorem zRD (ps:List V2):ps.all (zPt (yM ps) (yN ps))=true:=zXF.2 fun p hp=>zOl.2 (zGq hp)
theorem zJp {ps:List V2} (h:Conv ps):(yM ps).1<(yN ps).1/\(yM ps).2<(yN ps).2:=by
 have h3:=h.three
 have m0:=zGq (zBm (l:=ps) (i:=0) oQ)
 have m1:=zGq (zBm (l:=ps) (i:=1) oQ)
 have m2:=zGq (zBm (l:=ps) (i:=2) oQ)
 have hs:=h.strict 0 2 oQ oQ oQ (by rw [zXr oQ];omega)
 unfold edg at hs
 rw [show (0+1) % ps.length=1 from zXr oQ] at hs
 unfold crs at hs
 constructor
 ·apply zXv
  intro hn
  have e1:(at_ ps 1).1=(at_ ps 0).1:=by grind
  have e2:(at_ ps 2).1=(at_ ps 0).1:=by grind
  rw [e1,e2] at hs
  grind
 ·apply zXv
  intro hn
  have e1:(at_ ps 1).2=(at_ ps 0).2:=by grind
  have e2:(at_ ps 2).2=(at_ ps 0).2:=by grind
  rw [e1,e2] at hs
  grind
theorem zGo {m:Nat} {ps:List V2} {k:Nat} (h:k<ps.length):(egs m ([ps].flatMap yL))[k]?=some (CU.agg (fPR (fPV m (zX ps k).1) (fPV m (zX ps k).2))):=by
 rw [show [ps].flatMap yL=yL ps by simp]
 unfold egs yL
 rw [zX1,zX1,List.getElem?_range h]
 rfl
end Go.Proofs.Wd

namespace Go.Proofs.Wd
open Tryz
set_option maxRecDepth 100000
set_option maxHeartbeats 1000000
open Go.RowKit Lb
abbrev zns (L:List Int):List CU:=L.map fun z=>wC [.int .i64 z]
def pvx (ps:List V2) (k:Nat):Nat:=(k+ps.length - 1) % ps.length
def zEw (ps:List V2) (k:Nat):Int:=zBg (at_ ps (pvx ps k)) (at_ ps k) (at_ ps ((k+1) % ps.length))
def zCM (ps:List V2) (k:Nat):List Int:=(List.range k).map (zEw ps)
def qO (ps:List V2):List Int:=if ps.length<3 then [] else zCM ps ps.length
theorem zHF (ps:List V2) (k:Nat):zns (zCM ps (k+1))=zns (zCM ps k)++ [wC [.int .i64 (zEw ps k)]]:=by simp [zCM,List.range_succ]
theorem zJz (ps:List V2) (k:Nat):(zCM ps k).length=k:=by simp [zCM]
theorem zJy (ps:List V2):(qO ps).length<=ps.length:=by unfold qO;split<;>simp [zCM]
theorem zP5 {L:List Int} {k:Nat} (h:k<L.length):(zns L)[k]?=some (wC [.int .i64 (L.getD k 0)]):=by
 rw [zX1,zXW h,zX2,zXW h];rfl
theorem zP7 (z:Int) (cs:List Value) (W:World) (h:(wC [.int .i64 z]).p cs W): ∃u,cs[0]?=some u/\(uI z).p u W:=by
 obtain rfl:cs=_:=h
 exact ⟨_,rfl,rfl⟩
def zCv (ps:List V2):Bool:=(qO ps).all (fun z=>z==1)&&zDG ps
theorem zOJ {ps:List V2} {k:Nat} (hk:k<(qO ps).length) (h:((qO ps).getD k 0 !=1)=true):zCv ps=false:=by
 unfold zCv
 rw [Bool.and_eq_false_iff]
 left
 rw [zXX]
 rw [zX2,zXW hk] at h
 exact ⟨_,List.getElem_mem hk,by simpa using h⟩
theorem zMr {ps:List V2} (h: ∀j,j<(qO ps).length->((qO ps).getD j 0 !=1)=false):zCv ps=zDG ps:=by
 unfold zCv
 have:(qO ps).all (fun z=>z==1)=true:=by
  rw [zXF]
  intro z hz
  obtain ⟨j,hj,rfl⟩:=List.getElem_of_mem hz
  have:=h j hj
  rw [zX2,zXW hj] at this
  simpa using this
 rw [this,Bool.true_and]
theorem zJ7 {ps:List V2} (h:zCv ps=true):Conv ps:=by
 unfold zCv at h
 rw [zXK] at h
 obtain ⟨h1,h2⟩:=h
 have h3:3<=ps.length:=by
  apply zXv
  intro hx
  rw [zIx oQ] at h2
  exact absurd h2 dC
 refine zKC h2 fun i hi=> ?_
 unfold qO at h1
 rw [if_neg oQ,zXF] at h1
 have:=h1 (zEw ps ((i+1) % ps.length)) (List.mem_map.2 ⟨_,zXD.2 (zXM _ oQ),rfl⟩)
 have hs:=zKD.1 (zXw.1 this)
 have e1:pvx ps ((i+1) % ps.length)=i:=by
  unfold pvx
  rcases zXR (i+1) ps.length with q|q
  ·rw [zXr q,show i+1+ps.length - 1=i+ps.length by omega,Nat.add_mod_right,zXr hi]
  ·rw [show i+1=ps.length by omega,zXH,Nat.zero_add,zXr oQ];omega
 rw [e1,Nat.mod_add_mod] at hs
 exact hs
theorem zNu {m:Nat} {W:World} {u v x:Value} {p q r:V2} (h1:(fPV m p).p u W) (h2:(fPV m q).p v W) (h3:(fPV m r).p x W) (hm:m<=246) (hm0:0<m):Calls prog 59 #[u,v,x] W (Ret W (fI (zBg p q r)).tS):=by
 have hp:=zDh hm0 h1
 have hq:=zDh hm0 h2
 have hr:=zDh hm0 h3
 refine yB [(fPV m p).tS,(fPV m q).tS,(fPV m r).tS] func59 rfl kJ ⟨h1,h2,h3,trivial⟩ fun a s=> ?_
 refine zXo ?_
 refine zB 0 [] hmix s kJ
  zD fun a w1 s=> ?_
 refine yO (CU.agg (fPV m p)) rfl s kJ (fun v W h=>yV h) fun b3 a w s=> ?_
 refine yO (CU.agg (fPV m q)) rfl s kJ (fun v W h=>yV h) fun b4 a w s=> ?_
 refine yO (CU.agg (fPV m r)) rfl s kJ (fun v W h=>yV h) fun b5 a w s=> ?_
 refine yU (uI 0) rfl s kJ iiz fun a w s=> ?_
 refine zA rfl ?_
 refine zXo ?_
 replace s:=s.drop [6]
 refine zB 9 ((7, .s ((fPV m q).tS))::(8, .s ((fPV m p).tS))::(9, .s ((fPN ((q).1 - (p).1,(q).2 - (p).2)).tS))::(10, .s ((fPV m r).tS))::(11, .s ((fPV m p).tS))::(12, .s ((fPN ((r).1 - (p).1,(r).2 - (p).2)).tS))::(13, .s ((fQN (crs p q r)).tS))::(14, .s ((uI (zBg p q r)).tS))::(6, .u (uI (zBg p q r))):: []) hmix s kJ
  (oc (zK (f:=fPV m q) 6 kJ (hz:=zO _ _))<|oc (zK (f:=fPV m p) 6 kJ (hz:=zO _ _))<|oc (zI zE zFe (fun u0 u1 W hb (h0:(fPV m q).p u0 W) (h1:(fPV m p).p u1 W)=>zBM (m:=m) (p:=q) (q:=p) h0 h1 oQ hm0))<|oc (zK (f:=fPV m r) 6 kJ (hz:=zO _ _))<|oc (zK (f:=fPV m p) 6 kJ (hz:=zO _ _))<|oc (zI zE zFe (fun u0 u1 W hb (h0:(fPV m r).p u0 W) (h1:(fPV m p).p u1 W)=>zBM (m:=m) (p:=r) (q:=p) h0 h1 oQ hm0))<|oc (zI zE zOv (fun u0 u1 W hb (h0:(fPN ((q).1 - (p).1,(q).2 - (p).2)).p u0 W) (h1:(fPN ((r).1 - (p).1,(r).2 - (p).2)).p u1 W)=>zEG (m:=2*m+1) (p:=((q).1 - (p).1,(q).2 - (p).2)) (q:=((r).1 - (p).1,(r).2 - (p).2)) (zAP (p:=((q).1 - (p).1,(q).2 - (p).2)) (m:=(2*m+1)) ((zA5 hq hp).1.mono (by first|omega|decide)) ((zA5 hq hp).2.mono (by first|omega|decide)) h0) (zAP (p:=((r).1 - (p).1,(r).2 - (p).2)) (m:=(2*m+1)) ((zA5 hr hp).1.mono (by first|omega|decide)) ((zA5 hr hp).2.mono (by first|omega|decide)) h1) (zA5 hq hp) (zA5 hr hp) oQ oQ))<|oc (zH zE zRC (fun u0 W hb (h0:QNp (crs p q r) u0 W)=>zFR (m:=((2*m+1)+(2*m+1)+((2*m+1)+(2*m+1))+1)) (wJ h0 (((zA5 hq hp).1.mul (zA5 hr hp).2).sub ((zA5 hq hp).2.mul (zA5 hr hp).1))) oQ))<|oc zG<|zD) fun a w2 s=> ?_
 refine zA rfl ?_
 refine zXq ?_
 exact wD s (t:=6) rfl iiz
theorem zKW {m:Nat} {W:World} {l:Value} {ps:List V2} (hl:(SF.row 6 (pvs m ps)).p l W) (hm:m<=246) (hm0:0<m) (hn:ps.length<=1000000):Calls prog 29 #[l] W (Ret W (SF.row 1 (zns (qO ps)))):=by
 refine yB [(UF.eq l).tS] func29 rfl kJ ⟨rfl,trivial⟩ fun a s=> ?_
 replace s:=s.renew [(0, .u (UF.eq l))] (fmz ⟨.inr ⟨_,rfl, .head _⟩,fnz⟩)
 refine zXo ?_
 refine zB 1 ((2, .u (UF.eq (.slice none 0 0))):: []) hmix s kJ
  (oc zG<|zD) fun a w1 s=> ?_
 refine zA rfl ?_
 refine zXo ?_
 refine zXo ?_
 refine zB 3 ((5, .s ((UF.eq l).tS))::(6, .s ((uI ((pvs m ps).length:Int)).tS))::(7, .u (uB (decide (ps.length<3)))):: []) hmix s kJ
  (oc zC<|oc (y4 (z:=6) (Cs:=pvs m ps) kJ (fun v W hb h=>(yZ hl h (s.up hb))) (fun _=>rfl))<|oc (zS .i64 ((pvs m ps).length:Int) 3 (decide (ps.length<3)) iiz iiz (by simp only [zXz];rw [decide_eq_decide];omega) rfl)<|zD) fun a w2 s=> ?_
 refine zA rfl ?_
 refine StS.cond s (decide (ps.length<3)) iiz (fun e=> ?_) (fun e=> ?_)
 ·refine zXo ?_
  replace s:=s.drop [2]
  refine zB 1 ((2, .u (UF.eq (.slice none 0 0))):: []) hmix s kJ
   (oc zG<|zD) fun a w3 s=> ?_
  refine zA rfl ?_
  refine zXq ?_
  exact StS.resN s (Below.refl _ _) rfl (by rw [s.val (.head _)];rw [show qO ps= [] from if_pos (zXA e)];exact zHN 1 _)
 ·refine zXp ?_
  refine zXo ?_
  refine zB 1 ((3, .u (UF.eq (.slice none 0 0))):: []) hmix s kJ
   (oc zG<|zD) fun a w4 s=> ?_
  refine zA rfl ?_
  refine zXo ?_
  refine zXo ?_
  refine zB 1 ((4, .u (uI 0)):: []) hmix s kJ
   (oc zG<|zD) fun a w5 s=> ?_
  refine zA rfl ?_
  refine zXs ?_
  have h3:3<=ps.length:=by have:=zXJ e;simp at this;omega
  obtain ⟨base,hbase⟩: ∃b,b=w5.heap.size:=⟨_,rfl⟩
  have hb0:W.heap.size<=base:=by rw [hbase];exact s.gr.size
  have hsz0:base<=w5.heap.size:=by rw [hbase];exact Nat.le_refl _
  refine zEy (fun (p:Nat×Value) w=>p.1<=ps.length/\base<=w.heap.size/\zAR w base 3 1 p.2 (zns (zCM ps p.1))) (fun p=> [(0, .u (UF.eq l)),(3, .u (UF.eq (p.2))),(4, .u (uI (p.1:Int)))]) (fun p=>ps.length - p.1) (0, .slice none 0 0) (⟨zXN _,hsz0,zAR.nil _ _ _ _⟩) (s.keepK _ (fmz ⟨mz4,fmz ⟨mz1,fmz ⟨.head _,fnz⟩⟩⟩)) fun p a w hI s=> ?_
  have s0:=s
  have hlw:=(SF.row 6 (pvs m ps)).st _ _ _ hl s0.below
  replace s:=s.reb rfl [(0, .u (UF.eq l)),(3, .u (UF.eq (p.2))),(4, .u (uI (p.1:Int)))] (fmz ⟨.inl (.head _),fmz ⟨.inl mz1,fmz ⟨.inl mz2,fnz⟩⟩⟩)
  refine zXo ?_
  refine zXo ?_
  refine zB 4 ((8, .s ((uI (p.1:Int)).tS))::(9, .s ((UF.eq l).tS))::(10, .s ((uI ((pvs m ps).length:Int)).tS))::(11, .u (uB (decide ((p.1:Int)<((pvs m ps).length:Int))))):: []) hmix s kJ
   (oc zC<|oc zC<|oc (y4 (z:=6) (Cs:=pvs m ps) kJ (fun v W hb h=>(yZ hlw h (s.up hb))) (fun _=>rfl))<|oc (zS .i64 (p.1:Int) ((pvs m ps).length:Int) (decide ((p.1:Int)<((pvs m ps).length:Int))) iiz iiz rfl rfl)<|zD) fun a w6 s=> ?_
  refine zA rfl ?_
  refine StS.cond s (decide ((p.1:Int)<((pvs m ps).length:Int))) iiz (fun e=> ?_) (fun e=> ?_)
  ·have hk:p.1<ps.length:=by have:=zXA e;simp at this;omega
   have hpi:(pvx ps p.1)<ps.length:=zXM _ oQ
   have hni:((p.1+1) % ps.length)<ps.length:=zXM _ oQ
   have hlz:(pvs m ps).length=ps.length:=by simp
   refine zXp ?_
   refine zXo ?_
   refine zXs ?_
   refine zCe (K:= [(11, .u (uB (decide ((p.1:Int)<((pvs m ps).length:Int))))),(0, .u (UF.eq l)),(4, .u (uI (p.1:Int)))]) [(3, .u (UF.eq (p.2)))] [0,1,2,3,7,12,13,16,17,19] 26 ((14, .u (UF.eq (p.2)))::(15, .s ((UF.eq l).tS))::(16, .s ((uI (p.1:Int)).tS))::(17, .s ((UF.eq l).tS))::(18, .s ((uI ((pvs m ps).length:Int)).tS))::(19, .s ((uI ((p.1+ps.length:Nat):Int)).tS))::(20, .s ((uI ((p.1+ps.length - 1:Nat):Int)).tS))::(21, .s ((UF.eq l).tS))::(22, .s ((uI ((pvs m ps).length:Int)).tS))::(23, .s ((uI (((pvx ps p.1):Nat):Int)).tS))::(24, .s (wB (CU.agg (fPV m (at_ ps (pvx ps p.1)))).cf))::(25, .s ((fPV m (at_ ps (pvx ps p.1))).tS))::(26, .s ((UF.eq l).tS))::(27, .s ((uI (p.1:Int)).tS))::(28, .s (wB (CU.agg (fPV m (at_ ps p.1))).cf))::(29, .s ((fPV m (at_ ps p.1)).tS))::(30, .s ((UF.eq l).tS))::(31, .s ((uI (p.1:Int)).tS))::(32, .s ((uI ((p.1+1:Nat):Int)).tS))::(33, .s ((UF.eq l).tS))::(34, .s ((uI ((pvs m ps).length:Int)).tS))::(35, .s ((uI ((((p.1+1) % ps.length):Nat):Int)).tS))::(36, .s (wB (CU.agg (fPV m (at_ ps ((p.1+1) % ps.length)))).cf))::(37, .s ((fPV m (at_ ps ((p.1+1) % ps.length))).tS))::(38, .s ((uI (zEw ps p.1)).tS))::(39, .s (SF.row 1 [wC [.int .i64 (zEw ps p.1)]])):: []) hmix (s.keepK _ (fmz ⟨mz2,fmz ⟨.head _,fmz ⟨mz1,fmz ⟨mz3,fnz⟩⟩⟩⟩)) kJ
    (oc zC<|oc zC<|oc zC<|oc zC<|oc (y4 (z:=6) (Cs:=pvs m ps) kJ (fun v W hb h=>(yZ hlw h (s.up hb))) (fun _=>rfl))<|oc (yR .i64 (p.1:Int) ((pvs m ps).length:Int) ((p.1+ps.length:Nat):Int) iiz iiz (by rw [hlz,zXI];omega))<|oc (zDN .i64 ((p.1+ps.length:Nat):Int) 1 ((p.1+ps.length - 1:Nat):Int) iiz iiz (by rw [zXI];omega))<|oc zC<|oc (y4 (z:=6) (Cs:=pvs m ps) kJ (fun v W hb h=>(yZ hlw h (s.up hb))) (fun _=>rfl))<|oc (zEO .i64 ((p.1+ps.length - 1:Nat):Int) ((pvs m ps).length:Int) (((pvx ps p.1):Nat):Int) iiz iiz oQ (by rw [hlz];exact zFO _ _))<|oc (yJ (z:=6) (Cs:=pvs m ps) (i:=(pvx ps p.1)) (C:=CU.agg (fPV m (at_ ps (pvx ps p.1)))) kJ (qQ hpi) (fun v W hb h=>(yZ hlw h (s.up hb))) iiz)<|oc (zK (f:=fPV m (at_ ps (pvx ps p.1))) 6 kJ (hz:=zO _ _))<|oc zC<|oc zC<|oc (yJ (z:=6) (Cs:=pvs m ps) (i:=p.1) (C:=CU.agg (fPV m (at_ ps p.1))) kJ (qQ hk) (fun v W hb h=>(yZ hlw h (s.up hb))) iiz)<|oc (zK (f:=fPV m (at_ ps p.1)) 6 kJ (hz:=zO _ _))<|oc zC<|oc zC<|oc (yR .i64 (p.1:Int) 1 ((p.1+1:Nat):Int) iiz iiz (by rw [zXI];omega))<|oc zC<|oc (y4 (z:=6) (Cs:=pvs m ps) kJ (fun v W hb h=>(yZ hlw h (s.up hb))) (fun _=>rfl))<|oc (zEO .i64 ((p.1+1:Nat):Int) ((pvs m ps).length:Int) ((((p.1+1) % ps.length):Nat):Int) iiz iiz oQ (by rw [hlz];exact zFO _ _))<|oc (yJ (z:=6) (Cs:=pvs m ps) (i:=((p.1+1) % ps.length)) (C:=CU.agg (fPV m (at_ ps ((p.1+1) % ps.length)))) kJ (qQ hni) (fun v W hb h=>(yZ hlw h (s.up hb))) iiz)<|oc (zK (f:=fPV m (at_ ps ((p.1+1) % ps.length))) 6 kJ (hz:=zO _ _))<|oc (zBd zE zUC (fun u0 u1 u2 W hb (h0:(fPV m (at_ ps (pvx ps p.1))).p u0 W) (h1:(fPV m (at_ ps p.1)).p u1 W) (h2:(fPV m (at_ ps ((p.1+1) % ps.length))).p u2 W)=>zNu (m:=m) h0 h1 h2 oQ hm0))<|oc (zAW (fun u W (hu:u= .int .i64 (zEw ps p.1))=>zQm hu))<|zD) fun Q' hQ a w7 s hr=> ?_
   refine zM3 ([wC [.int .i64 (zEw ps p.1)]]) s0 (s.keepK [(14, .u (UF.eq (p.2))),(11, .u (uB (decide ((p.1:Int)<((pvs m ps).length:Int))))),(0, .u (UF.eq l)),(4, .u (uI (p.1:Int)))] (fmz ⟨.head _,fmz ⟨mz1,fmz ⟨mz2,fmz ⟨mz3,fnz⟩⟩⟩⟩)) hb0 hI.2 rfl kJ kJ kJ (s.fct (.tmp 14)) (hr (_,_) (.tail _ (.tail _ (.tail _ (.tail _ (.tail _ (.tail _ (.tail _ (.tail _ (.tail _ (.tail _ zI0))))))))))) (zSG _) (by simp [zJz];omega) (fun q hq=>by cases hq) fun v' a w hI' s=> ?_
   have s1:=s
   replace s:=s.reb rfl [(40, .u (UF.eq v')),(14, .u (UF.eq (p.2))),(11, .u (uB (decide ((p.1:Int)<((pvs m ps).length:Int))))),(0, .u (UF.eq l)),(4, .u (uI (p.1:Int)))] (fmz ⟨.inl (.head _),fmz ⟨.inl mz1,fmz ⟨.inl mz2,fmz ⟨.inl mz3,fmz ⟨.inl mz4,fnz⟩⟩⟩⟩⟩)
   refine yU (UF.eq v') rfl s kJ iiz fun a w s=> ?_
   refine zA rfl (hQ _ _ ?_)
   refine zY 2 ((12, .s ((uI (p.1:Int)).tS))::(13, .u (uI ((p.1+1:Nat):Int))):: []) s kJ
    (oc zC<|oc (yR .i64 (p.1:Int) 1 ((p.1+1:Nat):Int) iiz iiz (wrap64 _ _ oQ oQ))<|zD) fun a w8 s=> ?_
   replace s:=s.drop [4]
   refine yU (uI ((p.1+1:Nat):Int)) rfl s kJ iiz fun a w s=> ?_
   refine zA rfl ?_
   have hbw:=s.below
   replace s:=s1.back (s.keepK [(4, .u (uI ((p.1+1:Nat):Int))),(13, .u (uI ((p.1+1:Nat):Int))),(3, .u (UF.eq v')),(40, .u (UF.eq v')),(14, .u (UF.eq (p.2))),(11, .u (uB (decide ((p.1:Int)<((pvs m ps).length:Int))))),(0, .u (UF.eq l))] (fmz ⟨.head _,fmz ⟨mz1,fmz ⟨mz2,fmz ⟨mz3,fmz ⟨mz4,fmz ⟨mz5,fmz ⟨mz6,fnz⟩⟩⟩⟩⟩⟩⟩)) rfl
   exact ⟨(p.1+1,v'),(by show ps.length - (p.1+1)<ps.length - p.1;omega),⟨hk,Nat.le_trans hI'.1 hbw.size,by show zAR _ _ _ _ _ (zns (zCM ps (p.1+1)));rw [zHF];exact hI'.2.below hbw⟩,s.keepK _ (fmz ⟨mz6,fmz ⟨mz2,fmz ⟨.head _,fnz⟩⟩⟩)⟩
  ·have hk:p.1=ps.length:=by have h7:=zXJ e;have h8:=hI.1;simp at h7;omega
   refine zXP ?_
   refine zXo ?_
   refine zB 2 ((41, .s ((UF.eq (p.2)).tS))::(2, .u (UF.eq (p.2))):: []) hmix s kJ
    (oc zC<|oc zG<|zD) fun a w9 s=> ?_
   refine zA rfl ?_
   refine zXq ?_
   exact StS.resN s s0.below rfl (by rw [s.val (.head _)];have:=((hI.2.2.below s.below).mono hb0).row;rw [hk] at this;rw [show qO ps=zCM ps ps.length from if_neg oQ];exact this)
theorem zK6 {W:World} {l:Value} {ps:List V2} (hl:(SF.row 6 (pvs 80 ps)).p l W) (hn:ps.length<=1000000) (hpair: ∀i j,i<ps.length->j<ps.length->i≠j->zD5 (at_ ps i) (at_ ps j)):Calls prog 8 #[l] W (Ret W (fB (zCv ps)).tS):=by
 refine yB [(UF.eq l).tS] func8 rfl kJ ⟨rfl,trivial⟩ fun a s=> ?_
 replace s:=s.renew [(0, .u (UF.eq l))] (fmz ⟨.inr ⟨_,rfl, .head _⟩,fnz⟩)
 refine zXo ?_
 refine zB 1 ((2, .u (uB false)):: []) hmix s kJ
  (oc zG<|zD) fun a w1 s=> ?_
 refine zA rfl ?_
 refine zXo ?_
 refine qM 2 ((5, .s ((UF.eq l).tS))::(6, .s (SF.row 1 (zns (qO ps)))):: []) hmix s kJ
  (oc zC<|oc (zH zE zUO (fun u0 W hb (h0:u0=l)=>zKW (m:=80) (yZ hl h0 (s.up hb)) dC dC hn))<|zD) fun a w2 s hr=> ?_
 obtain ⟨v6,e6⟩: ∃v,a.tmps.getD 6 undef=v:=⟨_,rfl⟩
 have hv6:(SF.row 1 (zns (qO ps))).p v6 w2:=e6▸(hr (_,_) mz1)
 replace s:=s.learn 6 v6 e6
 have hb0:=s.below
 have hl':=(SF.row 6 (pvs 80 ps)).st _ _ _ hl hb0
 replace s:=s.reb rfl [(6, .u (UF.eq v6)),(2, .u (uB false)),(0, .u (UF.eq l))] (fmz ⟨.inl (.head _),fmz ⟨.inl mz1,fmz ⟨.inl mz2,fnz⟩⟩⟩)
 refine yU (UF.eq v6) rfl s kJ iiz fun a w s=> ?_
 refine zA rfl ?_
 refine zXo ?_
 refine zXo ?_
 refine zB 1 ((4, .u (uI 0)):: []) hmix s kJ
  (oc zG<|zD) fun a w3 s=> ?_
 refine zA rfl ?_
 refine zXs ?_
 refine zAx (fun k=>k<=(qO ps).length/\ ∀j,j<k->((qO ps).getD j 0 !=1)=false) (fun k=> [(3, .u (UF.eq v6)),(0, .u (UF.eq l)),(4, .u (uI (k:Int)))]) (fun k=>(qO ps).length - k) (0:Nat) (⟨zXN _,fun j hj=>absurd hj (zXY _)⟩) (s.keepK _ (fmz ⟨mz1,fmz ⟨mz4,fmz ⟨.head _,fnz⟩⟩⟩)) fun k a w hx s=> ?_
 have hlz:(zns (qO ps)).length=(qO ps).length:=by simp
 have htl:=zJy ps
 refine zXo ?_
 refine zXo ?_
 refine zB 4 ((7, .s ((uI (k:Int)).tS))::(8, .s ((UF.eq v6).tS))::(9, .s ((uI ((zns (qO ps)).length:Int)).tS))::(10, .u (uB (decide ((k:Int)<((zns (qO ps)).length:Int))))):: []) hmix s kJ
  (oc zC<|oc zC<|oc (y4 (z:=1) (Cs:=zns (qO ps)) kJ (fun v W hb h=>(yZ hv6 h (s.up hb))) (fun _=>rfl))<|oc (zS .i64 (k:Int) ((zns (qO ps)).length:Int) (decide ((k:Int)<((zns (qO ps)).length:Int))) iiz iiz rfl rfl)<|zD) fun a w4 s=> ?_
 refine zA rfl ?_
 refine StS.cond s (decide ((k:Int)<((zns (qO ps)).length:Int))) iiz (fun e=> ?_) (fun e=> ?_)
 ·have hk:k<(qO ps).length:=by have:=zXA e;simp at this;omega
  refine zXp ?_
  refine zXo ?_
  refine zXs ?_
  refine zXo ?_
  refine zB 5 ((13, .s ((UF.eq v6).tS))::(14, .s ((uI (k:Int)).tS))::(15, .s (wB (wC [.int .i64 ((qO ps).getD k 0)]).cf))::(16, .s ((uI ((qO ps).getD k 0)).tS))::(17, .u (uB (((qO ps).getD k 0) !=1))):: []) hmix s kJ
   (oc zC<|oc zC<|oc (yJ (z:=1) (Cs:=zns (qO ps)) (i:=k) (C:=wC [.int .i64 ((qO ps).getD k 0)]) kJ (zP5 hk) (fun v W hb h=>(yZ hv6 h (s.up hb))) iiz)<|oc (zAn (C:=(wC [.int .i64 ((qO ps).getD k 0)]).cf) kJ iiz (zP7 _))<|oc (zS .i64 ((qO ps).getD k 0) 1 (((qO ps).getD k 0) !=1) iiz iiz rfl rfl)<|zD) fun a w5 s=> ?_
  refine zA rfl ?_
  refine StS.cond s (((qO ps).getD k 0) !=1) iiz (fun e=> ?_) (fun e=> ?_)
  ·refine zXo ?_
   refine zB 1 ((2, .u (uB false)):: []) hmix s kJ
    (oc zG<|zD) fun a w6 s=> ?_
   refine zA rfl ?_
   refine zXq ?_
   exact wU s hb0 (t:=2) rfl (fun v W h=>by rw [zOJ hk e];exact h)
  ·refine zXp ?_
   refine zY 2 ((11, .s ((uI (k:Int)).tS))::(12, .u (uI ((k+1:Nat):Int))):: []) s kJ
    (oc zC<|oc (yR .i64 (k:Int) 1 ((k+1:Nat):Int) iiz iiz (wrap64 _ _ oQ oQ))<|zD) fun a w7 s=> ?_
   replace s:=s.drop [4]
   refine yU (uI ((k+1:Nat):Int)) rfl s kJ iiz fun a w s=> ?_
   refine zA rfl ?_
   exact ⟨k+1,⟨hk,fun j hj=>by rcases zXG (zXO hj) with h|h;exact hx.2 j h;rw [h];exact e⟩,(by show (qO ps).length - (k+1)<(qO ps).length - k;omega),s.keepK _ (fmz ⟨mz4,fmz ⟨mz5,fmz ⟨.head _,fnz⟩⟩⟩)⟩
 ·have hk:k=(qO ps).length:=by have h7:=zXJ e;have h8:=hx.1;simp at h7;omega
  refine zXP ?_
  refine zXo ?_
  refine zB 3 ((18, .s ((UF.eq l).tS))::(19, .s ((uB (zDG ps)).tS))::(2, .u (uB (zDG ps))):: []) hmix s kJ
   (oc zC<|oc (zH zE zUN (fun u0 W hb (h0:u0=l)=>zHT (ps:=ps) (yZ hl' h0 (s.up hb)) hn hpair))<|oc zG<|zD) fun a w8 s=> ?_
  refine zA rfl ?_
  refine zXq ?_
  exact wU s hb0 (t:=2) rfl (fun v W h=>by rw [zMr (fun j hj=>hx.2 j oQ)];exact h)
end Go.Proofs.Wd

namespace Go.Proofs.Wd
open Tryz
set_option maxRecDepth 100000
set_option maxHeartbeats 1000000
open Go.RowKit Lb
theorem zT7 {ps:List V2} (h: ∀q,q∈ps->QB q.1 6/\QB q.2 6) {i j:Nat} (hi:i<ps.length) (hj:j<ps.length):zD5 (at_ ps i) (at_ ps j):=⟨6,6,h _ (zBm hi),h _ (zBm hj),by decide⟩
theorem zPE {A:List PX} (h:g8 A=false) {l:Value} {W:World} (hl:(SF.row 6 (pxs A)).p l W):(SF.row 6 (pvs 6 (pps A))).p l W/\ ∀q,q∈pps A->QB q.1 6/\QB q.2 6:=by
 have:=zNF (zUd h).2 l W hl
 exact ⟨this,zIO dC this⟩
theorem zJU {F:Fence} {m:Nat} {P:Program} {w0:World} {ops:Array Oper} {G:Nat->SF} {d:Tmp} {ty:TypeId} {pos:String} {aft:Array Edge} {t:TypeId} {x:Operand} (h: ∀u W,Below w0.heap.size w0 W->(fct G x).p u W-> ∃e cs,z5 P t 1 [(0,u)]=some (e,cs)/\(G d).p (.slice (some ⟨W.heap.size,0,none⟩) 1 1) (W.alloc (.cells cs e))):qN F m P w0 ops G ⟨some d, .buildSlice t 1 #[(0,x)],ty,pos,aft,none⟩:=
 zCE fun b W hb hf=>by
  obtain ⟨e,cs,h1,h2⟩:=h _ W hb (hf x (by simp))
  exact ⟨e,cs,by simpa using h1,h2⟩
theorem zJT {F:Fence} {m:Nat} {P:Program} {w0:World} {ops:Array Oper} {G:Nat->SF} {d:Tmp} {ty:TypeId} {pos:String} {aft:Array Edge} {t:TypeId} {x y:Operand} (h: ∀u v W,Below w0.heap.size w0 W->(fct G x).p u W->(fct G y).p v W-> ∃e cs,z5 P t 2 [(0,u),(1,v)]=some (e,cs)/\(G d).p (.slice (some ⟨W.heap.size,0,none⟩) 2 2) (W.alloc (.cells cs e))):qN F m P w0 ops G ⟨some d, .buildSlice t 2 #[(0,x),(1,y)],ty,pos,aft,none⟩:=
 zCE fun b W hb hf=>by
  obtain ⟨e,cs,h1,h2⟩:=h _ _ W hb (hf x (by simp)) (hf y (by simp))
  exact ⟨e,cs,by simpa using h1,h2⟩
theorem zMh {ps:List V2} {i k:Nat} (h:zFt ps i k=true):zE7 (zFt ps i) (k+1)=zE7 (zFt ps i) k+1:=zPO h
theorem eg1 {ps:List V2}:([ps].flatMap yL).length=ps.length:=by simp [yL]
theorem eg2 {ps:List V2}:([ps,ps].flatMap yL).length=2*ps.length:=by simp [yL];omega
theorem zGn {m:Nat} {L:List (V2×V2)}:(egs m L).length=L.length:=by simp [egs]
theorem zFo {a b:Rat} (h:a<b):(decide (qsg a b<0))=true:=zXE (qlt.2 h)
theorem zH8 {A:List PX} {W:World} {l:Value} (hl0:(SF.row 6 (pxs A)).p l W) (hAl:A.length<=1048576) (_: ∀p,p∈A->PX.b p<=1048576) (hT:Tab W):Calls prog 4 #[l] W (Ret W (fB true).tS):=by
 have hGo:g8 A=false->(SF.row 6 (pvs 6 (pps A))).p l W/\ ∀q,q∈pps A->QB q.1 6/\QB q.2 6:=fun h=>zPE h hl0
 refine yB [(UF.eq l).tS] func4 rfl kJ ⟨rfl,trivial⟩ fun a s=> ?_
 replace s:=s.renew [(0, .u (UF.eq l))] (fmz ⟨.inr ⟨_,rfl, .head _⟩,fnz⟩)
 refine zXo ?_
 refine zB 1 ((2, .u (uB false)):: []) hmix s kJ
  (oc zG<|zD) fun a w1 s=> ?_
 refine zA rfl ?_
 refine zXo ?_
 refine zXo ?_
 refine zB 12 ((9, .s ((UF.eq l).tS))::(10, .s ((uB (g8 A)).tS))::(11, .s ((uB (g8 A)).tS))::(12, .s (SF.imp ((g8 A)=false) ((UF.eq l).tS)))::(13, .s (SF.imp ((g8 A)=false) ((uI ((pxs A).length:Int)).tS)))::(14, .s (SF.imp ((g8 A)=false) ((uB (decide (((pxs A).length:Int)>10))).tS)))::(15, .s ((uB ((g8 A)||(decide (((pxs A).length:Int)>10)))).tS))::(16, .s ((uB ((g8 A)||(decide (((pxs A).length:Int)>10)))).tS))::(17, .s (SF.imp (((g8 A)||(decide (((pxs A).length:Int)>10)))=false) ((UF.eq l).tS)))::(18, .s (SF.imp (((g8 A)||(decide (((pxs A).length:Int)>10)))=false) ((uB (zCv (pps A))).tS)))::(19, .s (SF.imp (((g8 A)||(decide (((pxs A).length:Int)>10)))=false) ((uB (!(zCv (pps A)))).tS)))::(20, .u (uB (((g8 A)||(decide (((pxs A).length:Int)>10)))||(!(zCv (pps A)))))):: []) hmix s kJ
  (oc zC<|oc (zH zE zVO (fun u0 W hb (h0:u0=l)=>zKX (L:=A) (yZ hl0 h0 (s.up hb))))<|oc zC<|oc (zF 11 (g8 A) kJ iiz (fun e=>z4 [] ((UF.eq l).tS) fnz (fun _ _ h _=>h) kJ zC) (fun e W h=>absurd h e))<|oc (zF 11 (g8 A) kJ iiz (fun e=>z4 [(12,(UF.eq l).tS)] ((uI ((pxs A).length:Int)).tS) (fmz ⟨fun v W h=>zQ (c:=(g8 A)=false) (f:=(UF.eq l).tS) e h,fnz⟩) (fun _ _ h _=>h) kJ (y4 (z:=6) (Cs:=pxs A) kJ (fun v W hb h=>(yZ hl0 h (s.up hb))) (fun _=>rfl))) (fun e W h=>absurd h e))<|oc (zF 11 (g8 A) kJ iiz (fun e=>z4 [(13,(uI ((pxs A).length:Int)).tS)] ((uB (decide (((pxs A).length:Int)>10))).tS) (fmz ⟨fun v W h=>zQ (c:=(g8 A)=false) (f:=(uI ((pxs A).length:Int)).tS) e h,fnz⟩) (fun _ _ h _=>h) kJ (zS .i64 ((pxs A).length:Int) 10 (decide (((pxs A).length:Int)>10)) iiz iiz rfl rfl)) (fun e W h=>absurd h e))<|oc (y6 (g8 A) iiz (fun e v W h=>zEL h e) (fun e v W h=>zDk (zQ e h) e))<|oc zC<|oc (zF 16 ((g8 A)||(decide (((pxs A).length:Int)>10))) kJ iiz (fun e=>z4 [] ((UF.eq l).tS) fnz (fun _ _ h _=>h) kJ zC) (fun e W h=>absurd h e))<|oc (zF 16 ((g8 A)||(decide (((pxs A).length:Int)>10))) kJ iiz (fun e=>z4 [(17,(UF.eq l).tS)] ((uB (zCv (pps A))).tS) (fmz ⟨fun v W h=>zQ (c:=((g8 A)||(decide (((pxs A).length:Int)>10)))=false) (f:=(UF.eq l).tS) e h,fnz⟩) (fun _ _ h _=>h) kJ (zH zE zVN (fun u0 W hb (h0:u0=l)=>zK6 (ps:=(pps A)) (by rw [show _=l from h0];exact zNH dC _ _ ((SF.row 6 _).st _ _ _ (hGo (by simp only [zXS] at e;exact e.1)).1 (s.up hb))) (by have:=(zUd (L:=A) (by simp only [zXS] at e;exact e.1)).1;simp;omega) (fun i j hi hj _=>zT7 (hGo (by simp only [zXS] at e;exact e.1)).2 hi hj)))) (fun e W h=>absurd h e))<|oc (zF 16 ((g8 A)||(decide (((pxs A).length:Int)>10))) kJ iiz (fun e=>z4 [(18,(uB (zCv (pps A))).tS)] ((uB (!(zCv (pps A)))).tS) (fmz ⟨fun v W h=>zQ (c:=((g8 A)||(decide (((pxs A).length:Int)>10)))=false) (f:=(uB (zCv (pps A))).tS) e h,fnz⟩) (fun _ _ h _=>h) kJ (zCQ (zCv (pps A)) iiz (fun _=>rfl))) (fun e W h=>absurd h e))<|oc (y6 ((g8 A)||(decide (((pxs A).length:Int)>10))) iiz (fun e v W h=>zEL h e) (fun e v W h=>zDk (zQ e h) e))<|zD) fun a w2 s=> ?_
 refine zA rfl ?_
 refine StS.cond s (((g8 A)||(decide (((pxs A).length:Int)>10)))||(!(zCv (pps A)))) iiz (fun e=> ?_) (fun e=> ?_)
 ·refine zXo ?_
  replace s:=s.drop [2]
  refine zB 2 ((21, .s ((uB true).tS))::(2, .u (uB true)):: []) hmix s kJ
   (oc (zCF zE zVl (fun W hb=>zKj (hT.below (s.up hb))))<|oc zG<|zD) fun a w3 s=> ?_
  refine zA rfl ?_
  refine zXq ?_
  exact wD s (t:=2) rfl iiz
 ·simp only [zXS] at e
  obtain ⟨⟨eG,_⟩,eS⟩:=e
  have hq:=zPE eG hl0
  have hA:=hq.1
  have hlen:=(zUd eG).1
  have hn60:(pps A).length<=60:=by simp;exact hlen
  have hnA:(pps A).length<=1000000:=by omega
  have hC:Conv (pps A):=zJ7 (by simpa using eS)
  have h3A:=hC.three
  have hne:((pps A).length !=0)=true:=by rw [bne_iff_ne];omega
  refine zXp ?_
  refine zXo ?_
  refine qM 3 ((22, .s ((UF.eq l).tS))::(23, .s (fRR 6 [(pps A)]))::(24, .s (wI w2 49 12 (egs 6 ([(pps A)].flatMap yL)))):: []) hmix s kJ
   (oc zC<|oc (zJU (fun u W hb (hu:u=l)=>zKy (by rw [show _=l from hu];exact (SF.row 6 _).st _ _ _ hA (s.up hb))))<|oc (zH zE zOB (fun u0 W hb h0=>(zEl (m:=6) (Ls:= [(pps A)]) h0 dC dC (fun x hx=>by simp only [List.mem_cons,List.not_mem_nil,or_false] at hx;rw [hx];exact hnA) (by simp) (by rw [eg1];omega) (hT.below (s.up hb))).mono (wG (zAL hb.size))))<|zD) fun a w4 s hr=> ?_
  obtain ⟨v24,e24⟩: ∃v,a.tmps.getD 24 undef=v:=⟨_,rfl⟩
  have hE:(SF.row 12 (egs 6 ([(pps A)].flatMap yL))).p v24 w4:=zBv _ _ (e24▸(hr (_,_) mz2))
  replace s:=s.learn 24 v24 e24
  have hb0:=s.below
  have hT0:=hT
  have hT:=hT0.below hb0
  have hAW:=hA
  have hA:=(SF.row 6 _).st _ _ _ hAW hb0
  replace s:StS _ _ _ [] _ _ _ _:=s.freeze
  replace s:=s.reb rfl [(24, .u (UF.eq v24)),(20, .u (uB (((g8 A)||(decide (((pxs A).length:Int)>10)))||(!(zCv (pps A)))))),(2, .u (uB false)),(0, .u (UF.eq l))] (fmz ⟨.inl (.head _),fmz ⟨.inl mz1,fmz ⟨.inl mz2,fmz ⟨.inl mz3,fnz⟩⟩⟩⟩)
  refine yU (UF.eq v24) rfl s kJ iiz fun a w s=> ?_
  refine zA rfl ?_
  refine zXo ?_
  refine zXo ?_
  refine zB 21 ((25, .s ((UF.eq v24).tS))::(26, .s ((uI (((egs 6 ([(pps A)].flatMap yL)).length:Nat):Int)).tS))::(27, .s ((UF.eq l).tS))::(28, .s ((uI ((pvs 6 (pps A)).length:Int)).tS))::(29, .s ((uB false).tS))::(30, .s ((uB false).tS))::(31, .s ((UF.eq l).tS))::(32, .s ((UF.eq l).tS))::(33, .s (fRR 6 [(pps A),(pps A)]))::(34, .s (SF.row 12 (egs 6 ([(pps A),(pps A)].flatMap yL))))::(35, .s ((uI (((egs 6 ([(pps A),(pps A)].flatMap yL)).length:Nat):Int)).tS))::(36, .s ((UF.eq l).tS))::(37, .s ((uI ((pvs 6 (pps A)).length:Int)).tS))::(38, .s ((uI ((2*A.length:Nat):Int)).tS))::(39, .s ((uB false).tS))::(40, .s ((uB false).tS))::(41, .s ((uB false).tS))::(42, .s (SF.row 12 (egs 6 (([]:List (List V2)).flatMap yL))))::(43, .s ((uI (((egs 6 (([]:List (List V2)).flatMap yL)).length:Nat):Int)).tS))::(44, .s ((uB false).tS))::(45, .u (uB false)):: []) hmix s kJ
   (oc zC<|oc (y4 (z:=12) (Cs:=egs 6 ([(pps A)].flatMap yL)) kJ (fun v W hb h=>(yZ hE h (s.up hb))) (fun _=>rfl))<|oc zC<|oc (y4 (z:=6) (Cs:=pvs 6 (pps A)) kJ (fun v W hb h=>(yZ hA h (s.up hb))) (fun _=>rfl))<|oc (zS .i64 (((egs 6 ([(pps A)].flatMap yL)).length:Nat):Int) ((pvs 6 (pps A)).length:Int) false iiz iiz (by rw [zGn,eg1];simp) rfl)<|oc zC<|oc (zF 30 false kJ iiz (fun _=>zC) arf)<|oc (zF 30 false kJ iiz (fun _=>zC) arf)<|oc (zF 30 false kJ iiz (fun _=>zJT (fun u v W hb (hu:u=l) (hv:v=l)=>zR6 (by rw [show _=l from hu];exact (SF.row 6 _).st _ _ _ hA (s.up hb)) (by rw [show _=l from hv];exact (SF.row 6 _).st _ _ _ hA (s.up hb)))) arf)<|oc (zF 30 false kJ iiz (fun _=>zH zE zOB (fun u0 W hb h0=>(zEl (m:=6) (Ls:= [(pps A),(pps A)]) h0 dC dC (fun x hx=>by simp only [List.mem_cons,List.not_mem_nil,or_false,or_self] at hx;rw [hx];exact hnA) (by simp) (by rw [eg2];omega) (hT.below (s.up hb))).mono (wG zBv))) arf)<|oc (zF 30 false kJ iiz (fun _=>zCn (z:=12) (Cs:=egs 6 ([(pps A),(pps A)].flatMap yL)) kJ iiz (fun _=>rfl)) arf)<|oc (zF 30 false kJ iiz (fun _=>zC) arf)<|oc (zF 30 false kJ iiz (fun _=>y4 (z:=6) (Cs:=pvs 6 (pps A)) kJ (fun v W hb h=>(yZ hA h (s.up hb))) (fun _=>rfl)) arf)<|oc (zF 30 false kJ iiz (fun _=>zQZ .i64 2 ((pvs 6 (pps A)).length:Int) ((2*A.length:Nat):Int) iiz iiz (by rw [zXI];simp only [zXz];omega)) arf)<|oc (zF 30 false kJ iiz (fun _=>zS .i64 (((egs 6 ([(pps A),(pps A)].flatMap yL)).length:Nat):Int) ((2*A.length:Nat):Int) false iiz iiz (by rw [zGn,eg2];simp) rfl) arf)<|oc (y6 false iiz (fun e=>by cases e) (fun _ _ _ h=>h))<|oc zC<|oc (zF 41 false kJ iiz (fun _=>zH zE zOB (fun u0 W hb (h0:u0= .slice none 0 0)=>(zEl (m:=6) (Ls:= []) (by rw [show u0=_ from h0];exact zSI 6 _) dC dC (fun x hx=>by cases hx) dC dC (hT.below (s.up hb))).mono (wG zBv))) arf)<|oc (zF 41 false kJ iiz (fun _=>zCn (z:=12) (Cs:=egs 6 (([]:List (List V2)).flatMap yL)) kJ iiz (fun _=>rfl)) arf)<|oc (zF 41 false kJ iiz (fun _=>zS .i64 (((egs 6 (([]:List (List V2)).flatMap yL)).length:Nat):Int) 0 false iiz iiz (by rw [zGn];rfl) rfl) arf)<|oc (y6 false iiz (fun e=>by cases e) (fun _ _ _ h=>h))<|zD) fun a w5 s=> ?_
  refine zA rfl ?_
  refine StS.cond s false iiz (fun e=>by cases e) (fun e=> ?_)
  refine zXp ?_
  refine zXo ?_
  refine zXo ?_
  refine zB 1 ((4, .u (uI 0)):: []) hmix s kJ
   (oc zG<|zD) fun a w6 s=> ?_
  refine zA rfl ?_
  refine zXs ?_
  refine zAx (fun i=>i<=(pps A).length) (fun i=> [(0, .u (UF.eq l)),(3, .u (UF.eq v24)),(4, .u (uI (i:Int)))]) (fun i=>(pps A).length - i) (0:Nat) (zXN _) (s.keepK _ (fmz ⟨mz6,fmz ⟨mz2,fmz ⟨.head _,fnz⟩⟩⟩)) fun i a w hx s=> ?_
  have hlz:(pvs 6 (pps A)).length=(pps A).length:=by simp
  have hle:(egs 6 ([pps A].flatMap yL)).length=(pps A).length:=by rw [zGn,eg1]
  refine zXo ?_
  refine zXo ?_
  refine zB 4 ((46, .s ((uI (i:Int)).tS))::(47, .s ((UF.eq l).tS))::(48, .s ((uI ((pvs 6 (pps A)).length:Int)).tS))::(49, .u (uB (decide ((i:Int)<((pvs 6 (pps A)).length:Int))))):: []) hmix s kJ
   (oc zC<|oc zC<|oc (y4 (z:=6) (Cs:=pvs 6 (pps A)) kJ (fun v W hb h=>(yZ hA h (s.up hb))) (fun _=>rfl))<|oc (zS .i64 (i:Int) ((pvs 6 (pps A)).length:Int) (decide ((i:Int)<((pvs 6 (pps A)).length:Int))) iiz iiz rfl rfl)<|zD) fun a w7 s=> ?_
  refine zA rfl ?_
  refine StS.cond s (decide ((i:Int)<((pvs 6 (pps A)).length:Int))) iiz (fun e=> ?_) (fun e=> ?_)
  ·have hi:i<(pps A).length:=by have h7:=zXA e;rw [hlz] at h7;omega
   refine zXp ?_
   refine zXo ?_
   refine zXs ?_
   refine zXo ?_
   refine zB 1 ((5, .u (uI 0)):: []) hmix s kJ
    (oc zG<|zD) fun a w8 s=> ?_
   refine zA rfl ?_
   refine zXo ?_
   refine zXo ?_
   refine zB 1 ((6, .u (uI 0)):: []) hmix s kJ
    (oc zG<|zD) fun a w9 s=> ?_
   refine zA rfl ?_
   refine zXs ?_
   refine zAx (fun k=>k<=(pps A).length) (fun k=> [(0, .u (UF.eq l)),(3, .u (UF.eq v24)),(4, .u (uI (i:Int))),(6, .u (uI (k:Int))),(5, .u (uI ((zE7 (zFt (pps A) i) k:Nat):Int)))]) (fun k=>(pps A).length - k) (0:Nat) (zXN _) (s.keepK _ (fmz ⟨mz3,fmz ⟨mz4,fmz ⟨mz5,fmz ⟨.head _,fmz ⟨mz1,fnz⟩⟩⟩⟩⟩)) fun k a w hx s=> ?_
   have hcl:=zMu (zFt (pps A) i) k
   refine zXo ?_
   refine zXo ?_
   refine zB 4 ((52, .s ((uI (k:Int)).tS))::(53, .s ((UF.eq v24).tS))::(54, .s ((uI (((egs 6 ([(pps A)].flatMap yL)).length:Nat):Int)).tS))::(55, .u (uB (decide ((k:Int)<(((egs 6 ([(pps A)].flatMap yL)).length:Nat):Int))))):: []) hmix s kJ
    (oc zC<|oc zC<|oc (y4 (z:=12) (Cs:=egs 6 ([(pps A)].flatMap yL)) kJ (fun v W hb h=>(yZ hE h (s.up hb))) (fun _=>rfl))<|oc (zS .i64 (k:Int) (((egs 6 ([(pps A)].flatMap yL)).length:Nat):Int) (decide ((k:Int)<(((egs 6 ([(pps A)].flatMap yL)).length:Nat):Int))) iiz iiz rfl rfl)<|zD) fun a w10 s=> ?_
   refine zA rfl ?_
   refine StS.cond s (decide ((k:Int)<(((egs 6 ([(pps A)].flatMap yL)).length:Nat):Int))) iiz (fun e=> ?_) (fun e=> ?_)
   ·have hk:k<(pps A).length:=by have h7:=zXA e;rw [hle] at h7;omega
    refine zXp ?_
    refine zXo ?_
    refine zXs ?_
    refine zXo ?_
    refine zXo ?_
    refine zB 12 ((58, .s ((UF.eq v24).tS))::(59, .s ((uI (k:Int)).tS))::(60, .s (wB (CU.agg (fPR (fPV 6 ((zX (pps A) k).1)) (fPV 6 ((zX (pps A) k).2)))).cf))::(61, .s (wB ((CU.agg (fPR (fPV 6 ((zX (pps A) k).1)) (fPV 6 ((zX (pps A) k).2)))).cf.at 0)))::(62, .s ((fPV 6 ((zX (pps A) k).1)).tS))::(63, .s ((UF.eq v24).tS))::(64, .s ((uI (k:Int)).tS))::(65, .s (wB (CU.agg (fPR (fPV 6 ((zX (pps A) k).1)) (fPV 6 ((zX (pps A) k).2)))).cf))::(66, .s (wB ((CU.agg (fPR (fPV 6 ((zX (pps A) k).1)) (fPV 6 ((zX (pps A) k).2)))).cf.at 6)))::(67, .s ((fPV 6 ((zX (pps A) k).2)).tS))::(68, .s ((uI (yY ((zX (pps A) k).1) ((zX (pps A) k).2))).tS))::(69, .u (uB false)):: []) hmix s kJ
     (oc zC<|oc zC<|oc (yJ (z:=12) (Cs:=egs 6 ([(pps A)].flatMap yL)) (i:=k) (C:=CU.agg (fPR (fPV 6 ((zX (pps A) k).1)) (fPV 6 ((zX (pps A) k).2)))) kJ (zGo hk) (fun v W hb h=>(yZ hE h (s.up hb))) iiz)<|oc (zJ (C:=(CU.agg (fPR (fPV 6 ((zX (pps A) k).1)) (fPV 6 ((zX (pps A) k).2)))).cf) 0 kJ)<|oc (zP (C:=(CU.agg (fPR (fPV 6 ((zX (pps A) k).1)) (fPV 6 ((zX (pps A) k).2)))).cf) (k:=0) 6 kJ (h:=zDj))<|oc zC<|oc zC<|oc (yJ (z:=12) (Cs:=egs 6 ([(pps A)].flatMap yL)) (i:=k) (C:=CU.agg (fPR (fPV 6 ((zX (pps A) k).1)) (fPV 6 ((zX (pps A) k).2)))) kJ (zGo hk) (fun v W hb h=>(yZ hE h (s.up hb))) iiz)<|oc (zJ (C:=(CU.agg (fPR (fPV 6 ((zX (pps A) k).1)) (fPV 6 ((zX (pps A) k).2)))).cf) 6 kJ)<|oc (zP (C:=(CU.agg (fPR (fPV 6 ((zX (pps A) k).1)) (fPV 6 ((zX (pps A) k).2)))).cf) (k:=6) 6 kJ (h:=zDY))<|oc (zI zE zRB (fun u0 u1 W hb (h0:(fPV 6 ((zX (pps A) k).1)).p u0 W) (h1:(fPV 6 ((zX (pps A) k).2)).p u1 W)=>zHR (m:=6) (p:=((zX (pps A) k).1)) (q:=((zX (pps A) k).2)) h0 h1 dC dC))<|oc (zS .i64 (yY ((zX (pps A) k).1) ((zX (pps A) k).2)) 0 false iiz iiz (by have:=zOE hC hk;show decide (_≥_)=false;exact zXC oQ) rfl)<|zD) fun a w11 s=> ?_
    refine zA rfl ?_
    refine StS.cond s false iiz (fun e=>by cases e) (fun e=> ?_)
    refine zXp ?_
    refine zXo ?_
    refine zB 22 ((70, .s ((UF.eq v24).tS))::(71, .s ((uI (k:Int)).tS))::(72, .s (wB (CU.agg (fPR (fPV 6 ((zX (pps A) k).1)) (fPV 6 ((zX (pps A) k).2)))).cf))::(73, .s (wB ((CU.agg (fPR (fPV 6 ((zX (pps A) k).1)) (fPV 6 ((zX (pps A) k).2)))).cf.at 0)))::(74, .s ((fPV 6 ((zX (pps A) k).1)).tS))::(75, .s ((UF.eq l).tS))::(76, .s ((uI (i:Int)).tS))::(77, .s (wB (CU.agg (fPV 6 (at_ (pps A) i))).cf))::(78, .s ((fPV 6 (at_ (pps A) i)).tS))::(79, .s ((uB (yY ((zX (pps A) k).1) (at_ (pps A) i)==0)).tS))::(80, .s ((uB (yY ((zX (pps A) k).1) (at_ (pps A) i)==0)).tS))::(81, .s (SF.imp ((yY ((zX (pps A) k).1) (at_ (pps A) i)==0)=false) ((UF.eq v24).tS)))::(82, .s (SF.imp ((yY ((zX (pps A) k).1) (at_ (pps A) i)==0)=false) ((uI (k:Int)).tS)))::(83, .s (SF.imp ((yY ((zX (pps A) k).1) (at_ (pps A) i)==0)=false) (wB (CU.agg (fPR (fPV 6 ((zX (pps A) k).1)) (fPV 6 ((zX (pps A) k).2)))).cf)))::(84, .s (SF.imp ((yY ((zX (pps A) k).1) (at_ (pps A) i)==0)=false) (wB ((CU.agg (fPR (fPV 6 ((zX (pps A) k).1)) (fPV 6 ((zX (pps A) k).2)))).cf.at 6))))::(85, .s (SF.imp ((yY ((zX (pps A) k).1) (at_ (pps A) i)==0)=false) ((fPV 6 ((zX (pps A) k).2)).tS)))::(86, .s (SF.imp ((yY ((zX (pps A) k).1) (at_ (pps A) i)==0)=false) ((UF.eq l).tS)))::(87, .s (SF.imp ((yY ((zX (pps A) k).1) (at_ (pps A) i)==0)=false) ((uI (i:Int)).tS)))::(88, .s (SF.imp ((yY ((zX (pps A) k).1) (at_ (pps A) i)==0)=false) (wB (CU.agg (fPV 6 (at_ (pps A) i))).cf)))::(89, .s (SF.imp ((yY ((zX (pps A) k).1) (at_ (pps A) i)==0)=false) ((fPV 6 (at_ (pps A) i)).tS)))::(90, .s (SF.imp ((yY ((zX (pps A) k).1) (at_ (pps A) i)==0)=false) ((uB (yY ((zX (pps A) k).2) (at_ (pps A) i)==0)).tS)))::(91, .u (uB ((yY ((zX (pps A) k).1) (at_ (pps A) i)==0)||(yY ((zX (pps A) k).2) (at_ (pps A) i)==0)))):: []) hmix s kJ
     (oc zC<|oc zC<|oc (yJ (z:=12) (Cs:=egs 6 ([(pps A)].flatMap yL)) (i:=k) (C:=CU.agg (fPR (fPV 6 ((zX (pps A) k).1)) (fPV 6 ((zX (pps A) k).2)))) kJ (zGo hk) (fun v W hb h=>(yZ hE h (s.up hb))) iiz)<|oc (zJ (C:=(CU.agg (fPR (fPV 6 ((zX (pps A) k).1)) (fPV 6 ((zX (pps A) k).2)))).cf) 0 kJ)<|oc (zP (C:=(CU.agg (fPR (fPV 6 ((zX (pps A) k).1)) (fPV 6 ((zX (pps A) k).2)))).cf) (k:=0) 6 kJ (h:=zDj))<|oc zC<|oc zC<|oc (yJ (z:=6) (Cs:=pvs 6 (pps A)) (i:=i) (C:=CU.agg (fPV 6 (at_ (pps A) i))) kJ (qQ hi) (fun v W hb h=>(yZ hA h (s.up hb))) iiz)<|oc (zK (f:=fPV 6 (at_ (pps A) i)) 6 kJ (hz:=zO _ _))<|oc (zI zE zHo (fun u0 u1 W hb (h0:(fPV 6 ((zX (pps A) k).1)).p u0 W) (h1:(fPV 6 (at_ (pps A) i)).p u1 W)=>zBH (m:=6) (p:=((zX (pps A) k).1)) (q:=(at_ (pps A) i)) h0 h1 dC dC))<|oc zC<|oc (zF 80 (yY ((zX (pps A) k).1) (at_ (pps A) i)==0) kJ iiz (fun e=>z4 [] ((UF.eq v24).tS) fnz (fun _ _ h _=>h) kJ zC) (fun e W h=>absurd h e))<|oc (zF 80 (yY ((zX (pps A) k).1) (at_ (pps A) i)==0) kJ iiz (fun e=>z4 [] ((uI (k:Int)).tS) fnz (fun _ _ h _=>h) kJ zC) (fun e W h=>absurd h e))<|oc (zF 80 (yY ((zX (pps A) k).1) (at_ (pps A) i)==0) kJ iiz (fun e=>z4 [(81,(UF.eq v24).tS),(82,(uI (k:Int)).tS)] (wB (CU.agg (fPR (fPV 6 ((zX (pps A) k).1)) (fPV 6 ((zX (pps A) k).2)))).cf) (fmz ⟨fun v W h=>zQ (c:=(yY ((zX (pps A) k).1) (at_ (pps A) i)==0)=false) (f:=(UF.eq v24).tS) e h,fmz ⟨fun v W h=>zQ (c:=(yY ((zX (pps A) k).1) (at_ (pps A) i)==0)=false) (f:=(uI (k:Int)).tS) e h,fnz⟩⟩) (fun _ _ h _=>h) kJ (yJ (z:=12) (Cs:=egs 6 ([(pps A)].flatMap yL)) (i:=k) (C:=CU.agg (fPR (fPV 6 ((zX (pps A) k).1)) (fPV 6 ((zX (pps A) k).2)))) kJ (zGo hk) (fun v W hb h=>(yZ hE h (s.up hb))) iiz)) (fun e W h=>absurd h e))<|oc (zF 80 (yY ((zX (pps A) k).1) (at_ (pps A) i)==0) kJ iiz (fun e=>z4 [(83,wB (CU.agg (fPR (fPV 6 ((zX (pps A) k).1)) (fPV 6 ((zX (pps A) k).2)))).cf)] (wB ((CU.agg (fPR (fPV 6 ((zX (pps A) k).1)) (fPV 6 ((zX (pps A) k).2)))).cf.at 6)) (fmz ⟨fun v W h=>zQ (c:=(yY ((zX (pps A) k).1) (at_ (pps A) i)==0)=false) (f:=wB (CU.agg (fPR (fPV 6 ((zX (pps A) k).1)) (fPV 6 ((zX (pps A) k).2)))).cf) e h,fnz⟩) (fun _ _ h _=>h) kJ (zJ (C:=(CU.agg (fPR (fPV 6 ((zX (pps A) k).1)) (fPV 6 ((zX (pps A) k).2)))).cf) 6 kJ)) (fun e W h=>absurd h e))<|oc (zF 80 (yY ((zX (pps A) k).1) (at_ (pps A) i)==0) kJ iiz (fun e=>z4 [(84,wB ((CU.agg (fPR (fPV 6 ((zX (pps A) k).1)) (fPV 6 ((zX (pps A) k).2)))).cf.at 6))] ((fPV 6 ((zX (pps A) k).2)).tS) (fmz ⟨fun v W h=>zQ (c:=(yY ((zX (pps A) k).1) (at_ (pps A) i)==0)=false) (f:=wB ((CU.agg (fPR (fPV 6 ((zX (pps A) k).1)) (fPV 6 ((zX (pps A) k).2)))).cf.at 6)) e h,fnz⟩) (fun _ _ h _=>h) kJ (zP (C:=(CU.agg (fPR (fPV 6 ((zX (pps A) k).1)) (fPV 6 ((zX (pps A) k).2)))).cf) (k:=6) 6 kJ (h:=zDY))) (fun e W h=>absurd h e))<|oc (zF 80 (yY ((zX (pps A) k).1) (at_ (pps A) i)==0) kJ iiz (fun e=>z4 [] ((UF.eq l).tS) fnz (fun _ _ h _=>h) kJ zC) (fun e W h=>absurd h e))<|oc (zF 80 (yY ((zX (pps A) k).1) (at_ (pps A) i)==0) kJ iiz (fun e=>z4 [] ((uI (i:Int)).tS) fnz (fun _ _ h _=>h) kJ zC) (fun e W h=>absurd h e))<|oc (zF 80 (yY ((zX (pps A) k).1) (at_ (pps A) i)==0) kJ iiz (fun e=>z4 [(86,(UF.eq l).tS),(87,(uI (i:Int)).tS)] (wB (CU.agg (fPV 6 (at_ (pps A) i))).cf) (fmz ⟨fun v W h=>zQ (c:=(yY ((zX (pps A) k).1) (at_ (pps A) i)==0)=false) (f:=(UF.eq l).tS) e h,fmz ⟨fun v W h=>zQ (c:=(yY ((zX (pps A) k).1) (at_ (pps A) i)==0)=false) (f:=(uI (i:Int)).tS) e h,fnz⟩⟩) (fun _ _ h _=>h) kJ (yJ (z:=6) (Cs:=pvs 6 (pps A)) (i:=i) (C:=CU.agg (fPV 6 (at_ (pps A) i))) kJ (qQ hi) (fun v W hb h=>(yZ hA h (s.up hb))) iiz)) (fun e W h=>absurd h e))<|oc (zF 80 (yY ((zX (pps A) k).1) (at_ (pps A) i)==0) kJ iiz (fun e=>z4 [(88,wB (CU.agg (fPV 6 (at_ (pps A) i))).cf)] ((fPV 6 (at_ (pps A) i)).tS) (fmz ⟨fun v W h=>zQ (c:=(yY ((zX (pps A) k).1) (at_ (pps A) i)==0)=false) (f:=wB (CU.agg (fPV 6 (at_ (pps A) i))).cf) e h,fnz⟩) (fun _ _ h _=>h) kJ (zK (f:=fPV 6 (at_ (pps A) i)) 6 kJ (hz:=zO _ _))) (fun e W h=>absurd h e))<|oc (zF 80 (yY ((zX (pps A) k).1) (at_ (pps A) i)==0) kJ iiz (fun e=>z4 [(85,(fPV 6 ((zX (pps A) k).2)).tS),(89,(fPV 6 (at_ (pps A) i)).tS)] ((uB (yY ((zX (pps A) k).2) (at_ (pps A) i)==0)).tS) (fmz ⟨fun v W h=>zQ (c:=(yY ((zX (pps A) k).1) (at_ (pps A) i)==0)=false) (f:=(fPV 6 ((zX (pps A) k).2)).tS) e h,fmz ⟨fun v W h=>zQ (c:=(yY ((zX (pps A) k).1) (at_ (pps A) i)==0)=false) (f:=(fPV 6 (at_ (pps A) i)).tS) e h,fnz⟩⟩) (fun _ _ h _=>h) kJ (zI zE zHo (fun u0 u1 W hb (h0:(fPV 6 ((zX (pps A) k).2)).p u0 W) (h1:(fPV 6 (at_ (pps A) i)).p u1 W)=>zBH (m:=6) (p:=((zX (pps A) k).2)) (q:=(at_ (pps A) i)) h0 h1 dC dC))) (fun e W h=>absurd h e))<|oc (y6 (yY ((zX (pps A) k).1) (at_ (pps A) i)==0) iiz (fun e v W h=>zEL h e) (fun e v W h=>zDk (zQ e h) e))<|zD) fun a w12 s=> ?_
    refine zA rfl ?_
    refine StS.cond s ((yY ((zX (pps A) k).1) (at_ (pps A) i)==0)||(yY ((zX (pps A) k).2) (at_ (pps A) i)==0)) iiz (fun e=> ?_) (fun e=> ?_)
    ·refine zY 2 ((92, .s ((uI ((zE7 (zFt (pps A) i) k:Nat):Int)).tS))::(93, .u (uI ((zE7 (zFt (pps A) i) (k+1):Nat):Int))):: []) s kJ
      (oc zC<|oc (yR .i64 ((zE7 (zFt (pps A) i) k:Nat):Int) 1 ((zE7 (zFt (pps A) i) (k+1):Nat):Int) iiz iiz (by rw [zXI,zMh (by unfold zFt;exact e)];omega))<|zD) fun a w13 s=> ?_
     replace s:=s.drop [5]
     refine yU (uI ((zE7 (zFt (pps A) i) (k+1):Nat):Int)) rfl s kJ iiz fun a w s=> ?_
     refine zA rfl ?_
     refine zY 2 ((56, .s ((uI (k:Int)).tS))::(57, .u (uI ((k+1:Nat):Int))):: []) s kJ
      (oc zC<|oc (yR .i64 (k:Int) 1 ((k+1:Nat):Int) iiz iiz (wrap64 _ _ oQ oQ))<|zD) fun a w14 s=> ?_
     replace s:=s.drop [6]
     refine yU (uI ((k+1:Nat):Int)) rfl s kJ iiz fun a w s=> ?_
     refine zA rfl ?_
     exact ⟨k+1,hk,(by show (pps A).length - (k+1)<(pps A).length - k;omega),s.keepK _ (fmz ⟨mz7,fmz ⟨mz8,fmz ⟨mz9,fmz ⟨.head _,fmz ⟨mz2,fnz⟩⟩⟩⟩⟩)⟩
    ·have e0:zE7 (zFt (pps A) i) (k)=zE7 (zFt (pps A) i) (k+1):=(zMv (by unfold zFt;exact e)).symm
     rw [e0] at s
     refine zXp ?_
     refine zY 2 ((56, .s ((uI (k:Int)).tS))::(57, .u (uI ((k+1:Nat):Int))):: []) s kJ
      (oc zC<|oc (yR .i64 (k:Int) 1 ((k+1:Nat):Int) iiz iiz (wrap64 _ _ oQ oQ))<|zD) fun a w15 s=> ?_
     replace s:=s.drop [6]
     refine yU (uI ((k+1:Nat):Int)) rfl s kJ iiz fun a w s=> ?_
     refine zA rfl ?_
     exact ⟨k+1,hk,(by show (pps A).length - (k+1)<(pps A).length - k;omega),s.keepK _ (fmz ⟨mz5,fmz ⟨mz6,fmz ⟨mz7,fmz ⟨.head _,fmz ⟨mz8,fnz⟩⟩⟩⟩⟩)⟩
   ·have hkN:k=(pps A).length:=by have h7:=zXJ e;rw [hle] at h7;omega
    subst hkN
    refine zXP ?_
    refine zXo ?_
    refine zB 2 ((94, .s ((uI ((zE7 (zFt (pps A) i) ((pps A).length):Nat):Int)).tS))::(95, .u (uB false)):: []) hmix s kJ
     (oc zC<|oc (zS .i64 ((zE7 (zFt (pps A) i) ((pps A).length):Nat):Int) 2 false iiz iiz (by rw [zMZ hC hi];rfl) rfl)<|zD) fun a w16 s=> ?_
    refine zA rfl ?_
    refine StS.cond s false iiz (fun e=>by cases e) (fun e=> ?_)
    refine zXp ?_
    refine zY 2 ((50, .s ((uI (i:Int)).tS))::(51, .u (uI ((i+1:Nat):Int))):: []) s kJ
     (oc zC<|oc (yR .i64 (i:Int) 1 ((i+1:Nat):Int) iiz iiz (wrap64 _ _ oQ oQ))<|zD) fun a w17 s=> ?_
    replace s:=s.drop [4]
    refine yU (uI ((i+1:Nat):Int)) rfl s kJ iiz fun a w s=> ?_
    refine zA rfl ?_
    exact ⟨i+1,hi,(by show (pps A).length - (i+1)<(pps A).length - i;omega),s.keepK _ (fmz ⟨mz4,fmz ⟨mz5,fmz ⟨.head _,fnz⟩⟩⟩)⟩
  ·refine zXP ?_
   refine zXo ?_
   refine zB 5 ((97, .s ((UF.eq l).tS))::(98, .s ((zAj (fPR (fPV 6 (yM (pps A))) (fPV 6 (yN (pps A)))) (uB true)).tS))::(96, .s ((zAj (fPR (fPV 6 (yM (pps A))) (fPV 6 (yN (pps A)))) (uB true)).tS))::(99, .u (fPR (fPV 6 (yM (pps A))) (fPV 6 (yN (pps A)))))::(100, .u (uB true)):: []) hmix s kJ
    (oc zC<|oc (zH zE zRA (fun u0 W hb (h0:u0=l)=>(zL2 (m:=6) (ps:=(pps A)) (yZ hA h0 (s.up hb)) dC dC hnA (hT.below (s.up hb))).mono (wG (fun v W h=>by rw [hne] at h;exact h))))<|oc zC<|oc (zAp (A:=(fPR (fPV 6 (yM (pps A))) (fPV 6 (yN (pps A)))).tS) (B:=(uB true).tS) iiz)<|oc (zAo (A:=(fPR (fPV 6 (yM (pps A))) (fPV 6 (yN (pps A)))).tS) (B:=(uB true).tS) iiz)<|zD) fun a w18 s=> ?_
   refine z7 (CU.len 12) (cs:= [.bool false, .slice none 0 0, .slice none 0 0, .bool false, .slice none 0 0, .slice none 0 0, .bool false, .slice none 0 0, .slice none 0 0, .bool false, .slice none 0 0, .slice none 0 0]) kJ rfl s kJ (fun W=>rfl) rfl fun b7 a w s=> ?_
   refine zR (CU.agg (fPR (fPV 6 (yM (pps A))) (fPV 6 (yN (pps A))))) ((fPR (fPV 6 (yM (pps A))) (fPV 6 (yN (pps A)))).tS) rfl s kJ rfl rfl rfl iiz iiz zBq fun a w s=> ?_
   refine yU (uB true) rfl s kJ iiz fun a w s=> ?_
   refine zA rfl ?_
   refine zXo ?_
   refine zB 30 ((101, .s ((uB true).tS))::(102, .s ((uB true).tS))::(103, .s ((fPR (fPV 6 (yM (pps A))) (fPV 6 (yN (pps A)))).tS))::(104, .s ((UF.eq l).tS))::(105, .s ((uB true).tS))::(106, .s ((uB true).tS))::(107, .s ((uB true).tS))::(108, .s (wB ((CU.agg (fPR (fPV 6 (yM (pps A))) (fPV 6 (yN (pps A))))).cf.at 0)))::(109, .s (wB ((CU.agg (fPR (fPV 6 (yM (pps A))) (fPV 6 (yN (pps A))))).cf.at 0)))::(110, .s ((fRV 6 ((yM (pps A)).1)).tS))::(111, .s (wB ((CU.agg (fPR (fPV 6 (yM (pps A))) (fPV 6 (yN (pps A))))).cf.at 6)))::(112, .s (wB ((CU.agg (fPR (fPV 6 (yM (pps A))) (fPV 6 (yN (pps A))))).cf.at 6)))::(113, .s ((fRV 6 ((yN (pps A)).1)).tS))::(114, .s ((uI (qsg (yM (pps A)).1 (yN (pps A)).1)).tS))::(115, .s ((uB true).tS))::(116, .s ((uB true).tS))::(117, .s ((uB true).tS))::(118, .s (wB ((CU.agg (fPR (fPV 6 (yM (pps A))) (fPV 6 (yN (pps A))))).cf.at 0)))::(119, .s (wB ((CU.agg (fPR (fPV 6 (yM (pps A))) (fPV 6 (yN (pps A))))).cf.at 3)))::(120, .s ((fRV 6 ((yM (pps A)).2)).tS))::(121, .s (wB ((CU.agg (fPR (fPV 6 (yM (pps A))) (fPV 6 (yN (pps A))))).cf.at 6)))::(122, .s (wB ((CU.agg (fPR (fPV 6 (yM (pps A))) (fPV 6 (yN (pps A))))).cf.at 9)))::(123, .s ((fRV 6 ((yN (pps A)).2)).tS))::(124, .s ((uI (qsg (yM (pps A)).2 (yN (pps A)).2)).tS))::(125, .s ((uB true).tS))::(126, .s ((uB true).tS))::(127, .s ((uB true).tS))::(128, .s ((uB true).tS))::(129, .s ((uB true).tS))::(2, .u (uB true)):: []) hmix s kJ
    (oc zC<|oc zC<|oc (zF 102 true kJ iiz (fun _=>zK (f:=fPR (fPV 6 (yM (pps A))) (fPV 6 (yN (pps A)))) 12 kJ (hz:=zCl)) arf)<|oc (zF 102 true kJ iiz (fun _=>zC) arf)<|oc (zF 102 true kJ iiz (fun _=>zI zE zUR (fun u0 u1 W hb (h0:(fPR (fPV 6 (yM (pps A))) (fPV 6 (yN (pps A)))).p u0 W) (h1:u1=l)=>(zSV (m:=6) (ps:=(pps A)) h0 (yZ hA h1 (s.up hb)) dC dC hnA (hT.below (s.up hb))).mono (wG (fun v W h=>by rw [zRD] at h;exact h)))) arf)<|oc (y6 true iiz (fun _ _ _ h=>h) (fun e=>by cases e))<|oc zC<|oc (zF 107 true kJ iiz (fun _=>zJ (C:=(CU.agg (fPR (fPV 6 (yM (pps A))) (fPV 6 (yN (pps A))))).cf) 0 kJ) arf)<|oc (zF 107 true kJ iiz (fun _=>yW (C:=(CU.agg (fPR (fPV 6 (yM (pps A))) (fPV 6 (yN (pps A))))).cf) 0 0 kJ) arf)<|oc (zF 107 true kJ iiz (fun _=>zP (C:=(CU.agg (fPR (fPV 6 (yM (pps A))) (fPV 6 (yN (pps A))))).cf) (k:=0) 3 kJ (h:=zQW)) arf)<|oc (zF 107 true kJ iiz (fun _=>zJ (C:=(CU.agg (fPR (fPV 6 (yM (pps A))) (fPV 6 (yN (pps A))))).cf) 6 kJ) arf)<|oc (zF 107 true kJ iiz (fun _=>yW (C:=(CU.agg (fPR (fPV 6 (yM (pps A))) (fPV 6 (yN (pps A))))).cf) 6 0 kJ) arf)<|oc (zF 107 true kJ iiz (fun _=>zP (C:=(CU.agg (fPR (fPV 6 (yM (pps A))) (fPV 6 (yN (pps A))))).cf) (k:=6) 3 kJ (h:=zNO)) arf)<|oc (zF 107 true kJ iiz (fun _=>zI zE zOC (fun u0 u1 W hb (h0:RVp 6 ((yM (pps A)).1) u0 W) (h1:RVp 6 ((yN (pps A)).1) u1 W)=>zFS (m:=6) h0 h1 dC dC)) arf)<|oc (zF 107 true kJ iiz (fun _=>zS .i64 (qsg (yM (pps A)).1 (yN (pps A)).1) 0 true iiz iiz (zFo (zJp hC).1) rfl) arf)<|oc (y6 true iiz (fun _ _ _ h=>h) (fun e=>by cases e))<|oc zC<|oc (zF 117 true kJ iiz (fun _=>zJ (C:=(CU.agg (fPR (fPV 6 (yM (pps A))) (fPV 6 (yN (pps A))))).cf) 0 kJ) arf)<|oc (zF 117 true kJ iiz (fun _=>yW (C:=(CU.agg (fPR (fPV 6 (yM (pps A))) (fPV 6 (yN (pps A))))).cf) 0 3 kJ) arf)<|oc (zF 117 true kJ iiz (fun _=>zP (C:=(CU.agg (fPR (fPV 6 (yM (pps A))) (fPV 6 (yN (pps A))))).cf) (k:=3) 3 kJ (h:=zQV)) arf)<|oc (zF 117 true kJ iiz (fun _=>zJ (C:=(CU.agg (fPR (fPV 6 (yM (pps A))) (fPV 6 (yN (pps A))))).cf) 6 kJ) arf)<|oc (zF 117 true kJ iiz (fun _=>yW (C:=(CU.agg (fPR (fPV 6 (yM (pps A))) (fPV 6 (yN (pps A))))).cf) 6 3 kJ) arf)<|oc (zF 117 true kJ iiz (fun _=>zP (C:=(CU.agg (fPR (fPV 6 (yM (pps A))) (fPV 6 (yN (pps A))))).cf) (k:=9) 3 kJ (h:=zNN)) arf)<|oc (zF 117 true kJ iiz (fun _=>zI zE zOC (fun u0 u1 W hb (h0:RVp 6 ((yM (pps A)).2) u0 W) (h1:RVp 6 ((yN (pps A)).2) u1 W)=>zFS (m:=6) h0 h1 dC dC)) arf)<|oc (zF 117 true kJ iiz (fun _=>zS .i64 (qsg (yM (pps A)).2 (yN (pps A)).2) 0 true iiz iiz (zFo (zJp hC).2) rfl) arf)<|oc (y6 true iiz (fun _ _ _ h=>h) (fun e=>by cases e))<|oc zC<|oc (zF 127 true kJ iiz (fun _=>zCF zE zVl (fun W hb=>zKj (hT.below (s.up hb)))) arf)<|oc (y6 true iiz (fun _ _ _ h=>h) (fun e=>by cases e))<|oc zG<|zD) fun a w19 s=> ?_
   refine zA rfl ?_
   refine zXq ?_
   exact wU s hb0 (t:=2) rfl iiz
end Go.Proofs.Wd
