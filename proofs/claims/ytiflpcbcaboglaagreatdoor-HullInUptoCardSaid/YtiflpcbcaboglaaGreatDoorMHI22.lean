/- Walks of straitref13: Edge, apart, Simple; Where a point is, of a conv and what it needs. -/
import Derived.Test.YtiflpcbcaboglaaGreatDoorMHI21
import Derived.Test.YtiflpcbcaboglaaGreatDoorMHI20
import Derived.Test.YtiflpcbcaboglaaGreatDoorMHI13
theorem kJ {P:Prop} (h:P:=by kernel_rfl):P:=h
theorem oQ {P:Prop} (h:P:=by omega):P:=h
theorem dC {P:Prop} (h:P:=by decide):P:=h
theorem fQ {c:Prop} {α:Sort _} {R:α->Prop} (e:¬c) (w:α) (h:c):R w:=absurd h e
theorem fR {α β:Sort _} {γ:α->β->Sort _} {p:(a:α)->(b:β)->γ a b->Prop} (a:α) (b:β) (c:γ a b) (h:p a b c):p a b c:=h
theorem fS {β γ:Sort _} {p q:β->γ->Prop} (b:β) (c:γ) (h:p b c) (_:q b c):p b c:=h
abbrev zYO:=@Go.wpIn_seq
abbrev zYP:=@Go.wpIn_ret
abbrev zYQ:=@Go.wpIn_skip
abbrev zYR:=@Classical.byContradiction
abbrev zYS:=@Rat.mul_pos
abbrev zYT:=@Rat.le_of_lt
abbrev zYU:=@beq_iff_eq
abbrev zYV:=@Rat.mul_nonneg
abbrev zYW:=@Nat.mod_eq_of_lt
abbrev zYX:=@Prod.ext
abbrev zYY:=@List.mem_range
abbrev zYZ:=@Go.wpIn_block
abbrev zY0:=@Bool.and_eq_true
abbrev zY1:=@of_decide_eq_true
abbrev zY2:=@List.all_eq_true
abbrev zY3:=@of_decide_eq_false
abbrev zY4:=@Nat.mod_lt
abbrev zY5:=@Nat.zero_le
abbrev zY6:=@Rat.le_total
abbrev zY7:=@List.length_map
abbrev zY8:=@Nat.mod_self
abbrev zY9:=@Go.IntKind.wrap_i64
abbrev zZa:=@Nat.lt_or_eq_of_le
abbrev zZb:=@beq_eq_false_iff_ne
abbrev zZc:=@Go.wpIn_exit
abbrev zZd:=@Rat.div_mul_cancel
abbrev zZe:=@decide_eq_true
abbrev zZf:=@Nat.le_of_lt_succ
abbrev zZg:=@Nat.lt_or_ge
abbrev zZh:=@decide_eq_true_iff
abbrev zZi:=@Bool.or_eq_false_iff
abbrev zZj:=@Nat.not_lt_zero
abbrev zZk:=@Rat.le_refl
abbrev zZl:=@Rat.mul_eq_zero
abbrev zZm:=@List.getElem?_eq_getElem
abbrev zZn:=@decide_eq_false
abbrev zZo:=@List.all_eq_false
abbrev zZp:=@Rat.num_eq_zero
abbrev zZq:=@List.getD_eq_getElem?_getD
abbrev Wt:=Go.World
abbrev Wu:=Go.Value
namespace Go.Proofs.Wd
open Tryz
variable {l ps:List V2} {i j k m n:Nat} {W:Wt} {u v x:Wu} {a b p q:V2} {a_ b_ r t y:Rat}
set_option maxRecDepth 100000
set_option maxHeartbeats 1000000
open Go.RowKit Lb
def zAD (ps:List V2) (k i:Nat):Bool:=if i=k+1∨(k=0/\i=ps.length - 1) then zBx (at_ ps k) (at_ ps ((k+1) % ps.length)) (at_ ps i) (at_ ps ((i+1) % ps.length))==1 else zBx (at_ ps k) (at_ ps ((k+1) % ps.length)) (at_ ps i) (at_ ps ((i+1) % ps.length))==0
def zO6 (ps:List V2) (i k:Nat):Bool:= !((jI (at_ ps i) (at_ ps k)==0)|| !(zAD ps k i))
def zD5 (ps:List V2):Bool:=decide (3<=ps.length)&&(List.range ps.length).all fun i=>(List.range i).all fun k=>zO6 ps i k
theorem zI3 (h:ps.length<3):zD5 ps=false:=by
 unfold zD5
 rw [zZn oQ,Bool.false_and]
theorem zQ6 (hi:i<ps.length) (hk:k<i) (h:((jI (at_ ps i) (at_ ps k)==0)|| !(zAD ps k i))=true):zD5 ps=false:=by
 unfold zD5
 rw [Bool.and_eq_false_iff]
 right
 rw [zZo]
 refine ⟨i,zYY.2 hi, ?_⟩
 rw [Bool.not_eq_true,zZo]
 refine ⟨k,zYY.2 hk, ?_⟩
 unfold zO6
 rw [h]
 decide
theorem zNT (h3:3<=ps.length) (h: ∀i k,i<ps.length->k<i->((jI (at_ ps i) (at_ ps k)==0)|| !(zAD ps k i))=false):zD5 ps=true:=by
 unfold zD5
 rw [zZe h3,Bool.true_and,zY2]
 intro i hi
 rw [zY2]
 intro k hk
 unfold zO6
 rw [h i k (zYY.1 hi) (zYY.1 hk)]
 rfl
theorem zDA {l:Wu} (hl:(wD 6 (pvs m ps)).p l W) (hu:u= .int .i64 (k:Int)) (hk:k<ps.length) (hn:ps.length<=1000000) (h2:2<=ps.length):Calls prog 62 #[l,u] W (Ret W (zDU (fPV m (at_ ps k)) (fPV m (tn ps k)) (fB true)).tS):=by
 have hk1:(k+1) % ps.length<ps.length:=zY4 _ oQ
 refine z7 [(wB l).tS,(uI (k:Int)).tS] func62 rfl kJ ⟨rfl,hu,trivial⟩ fun a s=> ?_
 replace s:=s.renew [(0,.u (wB l)),(1,.u (uI (k:Int)))] (fmz ⟨.inr ⟨_,rfl,.head _⟩,fmz ⟨.inr ⟨_,rfl,mz1⟩,fnz⟩⟩)
 refine zYO ?_
 refine zB 0 [] hmix s kJ
  zD fun a w1 s=> ?_
 refine zZ (wC (fPV m (((0:Rat),(0:Rat)):V2))) (cs:=ptZ) kJ rfl s kJ (fun W=>zGo m W) rfl fun b4 a w s=> ?_
 refine zZ (wC (fPV m (((0:Rat),(0:Rat)):V2))) (cs:=ptZ) kJ rfl s kJ (fun W=>zGo m W) rfl fun b5 a w s=> ?_
 refine yP (uB false) rfl s kJ iiz fun a w s=> ?_
 refine zA rfl ?_
 refine zYO ?_
 refine zYO ?_
 refine zB 13 ((7,.Z (wB l))::(8,.Z (uI ((pvs m ps).length:Int)))::(9,.Z (uB false))::(10,.Z (uB false))::(11,.Z (uI (k:Int)))::(12,.Z (uB false))::(13,.Z (uB false))::(14,.Z (uB false))::(15,.Z (uI (k:Int)))::(16,.Z (wB l))::(17,.Z (uI ((pvs m ps).length:Int)))::(18,.Z (uB false))::(19,.u (uB false)):: []) hmix s kJ
  (oc zC<|oc (yW (z:=6) (Cs:=pvs m ps) kJ (fun v W hb h=>(yU hl h (s.up hb))) (fun _=>rfl))<|oc (zR .i64 ((pvs m ps).length:Int) 2 false iiz iiz (by first|(simp;omega)|simp) rfl)<|oc zC<|oc (zF 10 false kJ iiz (fun _=>zC) arf)<|oc (zF 10 false kJ iiz (fun _=>zR .i64 (k:Int) 0 false iiz iiz (by first|(simp;omega)|simp) rfl) arf)<|oc (yJ false iiz (fun e=>by cases e) fR)<|oc zC<|oc (zF 14 false kJ iiz (fun _=>zC) arf)<|oc (zF 14 false kJ iiz (fun _=>zC) arf)<|oc (zF 14 false kJ iiz (fun _=>yW (z:=6) (Cs:=pvs m ps) kJ (fun v W hb h=>(yU hl h (s.up hb))) (fun _=>rfl)) arf)<|oc (zF 14 false kJ iiz (fun _=>zR .i64 (k:Int) ((pvs m ps).length:Int) false iiz iiz (by first|(simp;omega)|simp) rfl) arf)<|oc (yJ false iiz (fun e=>by cases e) fR)<|zD) fun a w2 s=> ?_
 refine zA rfl ?_
 refine StS.cond s false iiz (fun e=>by cases e) (fun e=> ?_)
 refine zYQ ?_
 refine zYO ?_
 have hwb:=s.below
 replace s:=s.drop [6]
 refine zIh (GW W) hmix s fun w3 _ s=> ?_
 have hwb:=s.below
 refine zD8 [4,5,6,7,8,9,10,11] [0,1,2,3,4,5,6,7,8,9,10,11] ((22,.u (wB l))::(23,.u (uI (k:Int)))::(24,.u (fOp W (wC (fPV m (at_ ps k)))))::(25,.u (fPV m (at_ ps k)))::(26,.u (wB l))::(27,.u (uI (k:Int)))::(28,.u (uI ((k+1:Nat):Int)))::(29,.u (wB l))::(30,.u (uI ((pvs m ps).length:Int)))::(31,.u (uI (((k+1) % ps.length:Nat):Int)))::(32,.u (fOp W (wC (fPV m (tn ps k)))))::(33,.u (fPV m (tn ps k))):: []) (zIC hwb) s kJ
  (oc zC<|oc zC<|oc (zHv (z:=6) (Cs:=pvs m ps) (i:=k) (C:=wC (fPV m (at_ ps k))) kJ (qI hk) hl iiz iiz)<|oc (zJn hwb (fPV m (at_ ps k)) 6 kJ iiz zEF)<|oc zC<|oc zC<|oc (yM .i64 (k:Int) 1 ((k+1:Nat):Int) iiz iiz (wrap64 _ _ oQ oQ))<|oc zC<|oc (yW (z:=6) (Cs:=pvs m ps) kJ (fun v W hb h=>by rw [show _=l from h];exact (wD 6 (pvs m ps)).st _ _ _ hl (s.up hb)) (fun _=>rfl))<|oc (zCa .i64 ((k+1:Nat):Int) ((pvs m ps).length:Int) (((k+1) % ps.length:Nat):Int) iiz iiz (by simp only [zY7];omega) (by simp only [zY7];rw [Int.tmod_eq_emod_of_nonneg oQ];rfl))<|oc (zHv (z:=6) (Cs:=pvs m ps) (i:=((k+1) % ps.length)) (C:=wC (fPV m (tn ps k))) kJ (qI hk1) hl iiz iiz)<|oc (zJn hwb (fPV m (tn ps k)) 6 kJ iiz zEF)<|zD)
  (zA2 rfl (zFy.c zFn hwb) (zA2 rfl (zFy.c zFn hwb) (zA2 rfl (zFy.c (zR9 (x:= .tmp 27) (y:= .const (.int .i64 1)) .i64 (k:Int) 1 iiz iiz) hwb) (zA2 rfl (zFy.c zFn hwb) (zA2 rfl (zFy.c (zTK (x:= .tmp 29) (z:=6) (Cs:=pvs m ps) kJ (fun v W hb h=>by rw [show _=l from h];exact (wD 6 (pvs m ps)).st _ _ _ hl hb)) hwb) (zA2 rfl (zFy.c (zR8 (x:= .tmp 28) (y:= .tmp 30) .i64 ((k+1:Nat):Int) ((pvs m ps).length:Int) iiz iiz (by simp only [zY7];omega)) hwb) (zA2 rfl (zFy.c (zMN (x:= .tmp 26) (y:= .tmp 31) (z:=6) (Cs:=pvs m ps) (i:=((k+1) % ps.length)) (C:=wC (fPV m (tn ps k))) kJ (qI hk1) hl iiz iiz) hwb) (zA2 rfl (zFy.c (zO9 (x:= .tmp 32) (fPV m (tn ps k)) 6 kJ iiz zEF) hwb) zEk)))))))) fun a w4 hbw s hr=> ?_
 replace hwb:=hwb.trans (hbw.mono hwb.size)
 refine zFM (i:=12) (c:=4) (wC (fPV m (at_ ps k))) ((fPV m (at_ ps k)).tS) s rfl kJ kJ rfl rfl rfl (zO _ _) iiz yV (fun vs _=>zQd hwb (s.own (c:=4) rfl rfl) _) fun w5 hg _ s=> ?_
 replace hwb:=hg _ (Below.refl _ _)
 refine zFM (i:=13) (c:=5) (wC (fPV m (tn ps k))) ((fPV m (tn ps k)).tS) s rfl kJ kJ rfl rfl rfl (zO _ _) iiz yV (fun vs _=>zQd hwb (s.own (c:=5) rfl rfl) _) fun w6 hg _ s=> ?_
 replace hwb:=hg _ (Below.refl _ _)
 refine zD8 [] [14] ((6,.u (uB true)):: []) (zIC hwb) s kJ (zJq zG<|zD) zEk fun a w7 hbw s hr=> ?_
 refine zGe kJ ?_
 refine zYP ?_
 exact vP s (wC (fPV m (at_ ps k))) (wC (fPV m (tn ps k))) rfl kJ kJ rfl rfl (zO _ _) rfl rfl (zO _ _) (fun cs cs' v W h1 h2 h3=>⟨_,_,_,rfl,h1,h2,h3⟩)
theorem zKe {l:Wu} (hl:(wD 6 (pvs 80 ps)).p l W) (hu:u= .int .i64 (k:Int)) (hv:v= .int .i64 (i:Int)) (hki:k<i) (hi:i<ps.length) (hn:ps.length<=1000000) (h3:3<=ps.length) (hpair: ∀i j,i<ps.length->j<ps.length->i≠j->zEt (at_ ps i) (at_ ps j)):Calls prog 55 #[l,u,v] W (Ret W (fB (zAD ps k i)).tS):=by
 have hk:k<ps.length:=by omega
 have nx: ∀j,j<ps.length->(j+1) % ps.length<ps.length/\j≠(j+1) % ps.length:=fun j hj=>by
  rcases zZa (Nat.succ_le_of_lt hj) with h|h
  ·rw [zYW h];omega
  ·rw [show j+1=ps.length from h,zY8];omega
 have pkk:zEt (at_ ps k) (tn ps k):=hpair _ _ hk (nx k hk).1 (nx k hk).2
 have pii:zEt (at_ ps i) (tn ps i):=hpair _ _ hi (nx i hi).1 (nx i hi).2
 have pki:zEt (at_ ps k) (at_ ps i):=hpair _ _ hk hi oQ
 refine z7 [(wB l).tS,(uI (k:Int)).tS,(uI (i:Int)).tS] func55 rfl kJ ⟨rfl,hu,hv,trivial⟩ fun a s=> ?_
 replace s:=s.renew [(0,.u (wB l)),(1,.u (uI (k:Int))),(2,.u (uI (i:Int)))] (fmz ⟨.inr ⟨_,rfl,.head _⟩,fmz ⟨.inr ⟨_,rfl,mz1⟩,fmz ⟨.inr ⟨_,rfl,mz2⟩,fnz⟩⟩⟩)
 refine zYO ?_
 refine zB 1 ((6,.u (uB false)):: []) hmix s kJ
  (oc zG<|zD) fun a w1 s=> ?_
 refine zA rfl ?_
 refine zYO ?_
 refine zB 7 ((15,.Z (wB l))::(16,.Z (uI (k:Int)))::(17,.Z (zDU (fPV 80 (at_ ps k)) (fPV 80 (tn ps k)) (uB true)))::(14,.Z (zDU (fPV 80 (at_ ps k)) (fPV 80 (tn ps k)) (uB true)))::(18,.u (fPV 80 (at_ ps k)))::(19,.u (fPV 80 (tn ps k)))::(20,.u (uB true)):: []) hmix s kJ
  (oc zC<|oc zC<|oc (zI zE zPd (fun u0 u1 W hb (h0:u0=l) (h1:u1= .int .i64 (k:Int))=>zDA (m:=80) (ps:=ps) (k:=k) (yU hl h0 (s.up hb)) h1 hk hn oQ))<|oc zC<|oc (zCT (A:=(fPV 80 (at_ ps k)).tS) (B:=(fPV 80 (tn ps k)).tS) (C:=(uB true).tS) iiz)<|oc (zCS (A:=(fPV 80 (at_ ps k)).tS) (B:=(fPV 80 (tn ps k)).tS) (C:=(uB true).tS) iiz)<|oc (zCR (A:=(fPV 80 (at_ ps k)).tS) (B:=(fPV 80 (tn ps k)).tS) (C:=(uB true).tS) iiz)<|zD) fun a w2 s=> ?_
 refine zZ (CU.len 6) (cs:=zP6) kJ rfl s kJ (fun W=>rfl) rfl fun b7 a w s=> ?_
 refine zZ (CU.len 6) (cs:=zP6) kJ rfl s kJ (fun W=>rfl) rfl fun b8 a w s=> ?_
 refine zS (wC (fPV 80 (at_ ps k))) ((fPV 80 (at_ ps k)).tS) rfl s kJ rfl rfl rfl iiz iiz yV fun a w s=> ?_
 refine zS (wC (fPV 80 (tn ps k))) ((fPV 80 (tn ps k)).tS) rfl s kJ rfl rfl rfl iiz iiz yV fun a w s=> ?_
 refine yP (uB true) rfl s kJ iiz fun a w s=> ?_
 refine zA rfl ?_
 refine zYO ?_
 refine zB 7 ((22,.Z (wB l))::(23,.Z (uI (i:Int)))::(24,.Z (zDU (fPV 80 (at_ ps i)) (fPV 80 (tn ps i)) (uB true)))::(21,.Z (zDU (fPV 80 (at_ ps i)) (fPV 80 (tn ps i)) (uB true)))::(25,.u (fPV 80 (at_ ps i)))::(26,.u (fPV 80 (tn ps i)))::(27,.u (uB true)):: []) hmix s kJ
  (oc zC<|oc zC<|oc (zI zE zPd (fun u0 u1 W hb (h0:u0=l) (h1:u1= .int .i64 (i:Int))=>zDA (m:=80) (ps:=ps) (k:=i) (yU hl h0 (s.up hb)) h1 hi hn oQ))<|oc zC<|oc (zCT (A:=(fPV 80 (at_ ps i)).tS) (B:=(fPV 80 (tn ps i)).tS) (C:=(uB true).tS) iiz)<|oc (zCS (A:=(fPV 80 (at_ ps i)).tS) (B:=(fPV 80 (tn ps i)).tS) (C:=(uB true).tS) iiz)<|oc (zCR (A:=(fPV 80 (at_ ps i)).tS) (B:=(fPV 80 (tn ps i)).tS) (C:=(uB true).tS) iiz)<|zD) fun a w3 s=> ?_
 refine zZ (CU.len 6) (cs:=zP6) kJ rfl s kJ (fun W=>rfl) rfl fun b10 a w s=> ?_
 refine zZ (CU.len 6) (cs:=zP6) kJ rfl s kJ (fun W=>rfl) rfl fun b11 a w s=> ?_
 refine zS (wC (fPV 80 (at_ ps i))) ((fPV 80 (at_ ps i)).tS) rfl s kJ rfl rfl rfl iiz iiz yV fun a w s=> ?_
 refine zS (wC (fPV 80 (tn ps i))) ((fPV 80 (tn ps i)).tS) rfl s kJ rfl rfl rfl iiz iiz yV fun a w s=> ?_
 refine yP (uB true) rfl s kJ iiz fun a w s=> ?_
 refine zA rfl ?_
 refine zYO ?_
 refine zB 5 ((28,.Z (fPV 80 (at_ ps k)))::(29,.Z (fPV 80 (tn ps k)))::(30,.Z (fPV 80 (at_ ps i)))::(31,.Z (fPV 80 (tn ps i)))::(32,.u (fMT (zBx (at_ ps k) (tn ps k) (at_ ps i) (tn ps i)))):: []) hmix s kJ
  (oc (zJ (f:=fPV 80 (at_ ps k)) 6 kJ (hz:=zO _ _))<|oc (zJ (f:=fPV 80 (tn ps k)) 6 kJ (hz:=zO _ _))<|oc (zJ (f:=fPV 80 (at_ ps i)) 6 kJ (hz:=zO _ _))<|oc (zJ (f:=fPV 80 (tn ps i)) 6 kJ (hz:=zO _ _))<|oc (zGt zE zVk (fun u0 u1 u2 u3 W hb (h0:(fPV 80 (at_ ps k)).p u0 W) (h1:(fPV 80 (tn ps k)).p u1 W) (h2:(fPV 80 (at_ ps i)).p u2 W) (h3:(fPV 80 (tn ps i)).p u3 W)=>zLD h0 h1 h2 h3 pkk pii pki))<|zD) fun a w4 s=> ?_
 refine zZ (CU.len 13) (cs:= [.int .i8 0,.bool false, sN, sN,.bool false, sN, sN,.bool false, sN, sN,.bool false, sN, sN]) kJ rfl s kJ (fun W=>rfl) rfl fun b13 a w s=> ?_
 refine zS (wC (fMT (zBx (at_ ps k) (tn ps k) (at_ ps i) (tn ps i)))) ((fMT (zBx (at_ ps k) (tn ps k) (at_ ps i) (tn ps i))).tS) rfl s kJ rfl rfl rfl iiz iiz (zDK _) fun a w s=> ?_
 refine zA rfl ?_
 refine zYO ?_
 refine zYO ?_
 rcases (show i=k+1∨(i≠k+1/\k=0/\i=ps.length - 1)∨(i≠k+1/\k=0/\i≠ps.length - 1)∨(i≠k+1/\k≠0) by omega) with c1|⟨c1,c2,c3⟩|⟨c1,c2,c3⟩|⟨c1,c2⟩
 ·refine zB 0 [] hmix s kJ
   zD fun a w5 s=> ?_
  refine zAS (uI (i:Int)) rfl s kJ zC kJ fun a w s=> ?_
  refine zAS (uI (k:Int)) rfl s kJ zC kJ fun a w s=> ?_
  refine zAS (uI ((k+1:Nat):Int)) rfl s kJ (yM .i64 (k:Int) 1 ((k+1:Nat):Int) iiz iiz (wrap64 _ _ oQ oQ)) kJ fun a w s=> ?_
  refine zAS (uB true) rfl s kJ (zR .i64 (i:Int) ((k+1:Nat):Int) true iiz iiz (zYU.2 oQ) rfl) kJ fun a w s=> ?_
  refine zAS (uB true) rfl s kJ zC kJ fun a w s=> ?_
  refine zBH (.bool true) rfl rfl s iiz kJ kJ (fun a w s=> ?_)
  refine zBH (.bool true) rfl rfl s iiz kJ kJ (fun a w s=> ?_)
  refine zBH (.bool true) rfl rfl s iiz kJ kJ (fun a w s=> ?_)
  refine zBH undef rfl rfl s iiz kJ kJ (fun a w s=> ?_)
  refine zBH undef rfl rfl s iiz kJ kJ (fun a w s=> ?_)
  refine zBH undef rfl rfl s iiz kJ kJ (fun a w s=> ?_)
  refine zBH undef rfl rfl s iiz kJ kJ (fun a w s=> ?_)
  refine zBH undef rfl rfl s iiz kJ kJ (fun a w s=> ?_)
  refine zBH (.bool true) rfl rfl s iiz kJ kJ (fun a w s=> ?_)
  refine zAS (uB true) rfl s kJ (yJ true iiz fR (fun e=>by cases e)) kJ fun a w s=> ?_
  refine zA rfl ?_
  refine StS.cond s true iiz (fun e=> ?_) (fun e=>by cases e)
  refine zYO ?_
  replace s:=s.drop [6]
  refine zB 4 ((48,.X (fMT (zBx (at_ ps k) (tn ps k) (at_ ps i) (tn ps i))) 0)::(49,.Z (wB (.int .i8 (zBx (at_ ps k) (tn ps k) (at_ ps i) (tn ps i)))))::(50,.Z (uB ((zBx (at_ ps k) (tn ps k) (at_ ps i) (tn ps i))==1)))::(6,.u (uB ((zBx (at_ ps k) (tn ps k) (at_ ps i) (tn ps i))==1))):: []) hmix s kJ
   (oc (zL (C:=cg (fMT (zBx (at_ ps k) (tn ps k) (at_ ps i) (tn ps i)))) 0 kJ)<|oc (jE (C:=cg (fMT (zBx (at_ ps k) (tn ps k) (at_ ps i) (tn ps i)))) (k:=0) kJ (h:=zGy _))<|oc (zR .i8 (zBx (at_ ps k) (tn ps k) (at_ ps i) (tn ps i)) 1 ((zBx (at_ ps k) (tn ps k) (at_ ps i) (tn ps i))==1) iiz iiz rfl rfl)<|oc zG<|zD) fun a w6 s=> ?_
  refine zA rfl ?_
  refine zYP ?_
  exact wG s (t:=6) rfl (fun v W h=>by rw [show zAD ps k i=_ from if_pos (.inl c1)];exact h)
 ·refine zB 0 [] hmix s kJ
   zD fun a w7 s=> ?_
  refine zAS (uI (i:Int)) rfl s kJ zC kJ fun a w s=> ?_
  refine zAS (uI (k:Int)) rfl s kJ zC kJ fun a w s=> ?_
  refine zAS (uI ((k+1:Nat):Int)) rfl s kJ (yM .i64 (k:Int) 1 ((k+1:Nat):Int) iiz iiz (wrap64 _ _ oQ oQ)) kJ fun a w s=> ?_
  refine zAS (uB false) rfl s kJ (zR .i64 (i:Int) ((k+1:Nat):Int) false iiz iiz (zZb.2 oQ) rfl) kJ fun a w s=> ?_
  refine zAS (uB false) rfl s kJ zC kJ fun a w s=> ?_
  refine zBF (uI (k:Int)) rfl rfl s iiz kJ zC kJ fun a w s=> ?_
  refine zBF (uB true) rfl rfl s iiz kJ (zR .i64 (k:Int) 0 true iiz iiz (zYU.2 oQ) rfl) kJ fun a w s=> ?_
  refine zBF (uB true) rfl rfl s iiz kJ zC kJ fun a w s=> ?_
  refine zBF (uI (i:Int)) rfl rfl s iiz kJ zC kJ fun a w s=> ?_
  refine zBF (wB l) rfl rfl s iiz kJ zC kJ fun a w s=> ?_
  refine zBF (uI ((pvs 80 ps).length:Int)) rfl rfl s iiz kJ (yW (z:=6) (Cs:=pvs 80 ps) kJ (fun v W hb h=>(yU hl h (s.up hb))) (fun _=>rfl)) kJ fun a w s=> ?_
  refine zBF (uI ((ps.length - 1:Nat):Int)) rfl rfl s iiz kJ (zEd .i64 ((pvs 80 ps).length:Int) 1 ((ps.length - 1:Nat):Int) iiz iiz (by simp only [zY7];rw [zY9];omega)) kJ fun a w s=> ?_
  refine zBF (uB true) rfl rfl s iiz kJ (zR .i64 (i:Int) ((ps.length - 1:Nat):Int) true iiz iiz (zYU.2 oQ) rfl) kJ fun a w s=> ?_
  refine zBF (uB true) rfl rfl s iiz kJ (yJ true iiz fR (fun e=>by cases e)) kJ fun a w s=> ?_
  refine zAS (uB true) rfl s kJ (yJ false iiz (fun e=>by cases e) fR) kJ fun a w s=> ?_
  refine zA rfl ?_
  refine StS.cond s true iiz (fun e=> ?_) (fun e=>by cases e)
  refine zYO ?_
  replace s:=s.drop [6]
  refine zB 4 ((48,.X (fMT (zBx (at_ ps k) (tn ps k) (at_ ps i) (tn ps i))) 0)::(49,.Z (wB (.int .i8 (zBx (at_ ps k) (tn ps k) (at_ ps i) (tn ps i)))))::(50,.Z (uB ((zBx (at_ ps k) (tn ps k) (at_ ps i) (tn ps i))==1)))::(6,.u (uB ((zBx (at_ ps k) (tn ps k) (at_ ps i) (tn ps i))==1))):: []) hmix s kJ
   (oc (zL (C:=cg (fMT (zBx (at_ ps k) (tn ps k) (at_ ps i) (tn ps i)))) 0 kJ)<|oc (jE (C:=cg (fMT (zBx (at_ ps k) (tn ps k) (at_ ps i) (tn ps i)))) (k:=0) kJ (h:=zGy _))<|oc (zR .i8 (zBx (at_ ps k) (tn ps k) (at_ ps i) (tn ps i)) 1 ((zBx (at_ ps k) (tn ps k) (at_ ps i) (tn ps i))==1) iiz iiz rfl rfl)<|oc zG<|zD) fun a w8 s=> ?_
  refine zA rfl ?_
  refine zYP ?_
  exact wG s (t:=6) rfl (fun v W h=>by rw [show zAD ps k i=_ from if_pos (.inr ⟨c2,c3⟩)];exact h)
 ·refine zB 0 [] hmix s kJ
   zD fun a w9 s=> ?_
  refine zAS (uI (i:Int)) rfl s kJ zC kJ fun a w s=> ?_
  refine zAS (uI (k:Int)) rfl s kJ zC kJ fun a w s=> ?_
  refine zAS (uI ((k+1:Nat):Int)) rfl s kJ (yM .i64 (k:Int) 1 ((k+1:Nat):Int) iiz iiz (wrap64 _ _ oQ oQ)) kJ fun a w s=> ?_
  refine zAS (uB false) rfl s kJ (zR .i64 (i:Int) ((k+1:Nat):Int) false iiz iiz (zZb.2 oQ) rfl) kJ fun a w s=> ?_
  refine zAS (uB false) rfl s kJ zC kJ fun a w s=> ?_
  refine zBF (uI (k:Int)) rfl rfl s iiz kJ zC kJ fun a w s=> ?_
  refine zBF (uB true) rfl rfl s iiz kJ (zR .i64 (k:Int) 0 true iiz iiz (zYU.2 oQ) rfl) kJ fun a w s=> ?_
  refine zBF (uB true) rfl rfl s iiz kJ zC kJ fun a w s=> ?_
  refine zBF (uI (i:Int)) rfl rfl s iiz kJ zC kJ fun a w s=> ?_
  refine zBF (wB l) rfl rfl s iiz kJ zC kJ fun a w s=> ?_
  refine zBF (uI ((pvs 80 ps).length:Int)) rfl rfl s iiz kJ (yW (z:=6) (Cs:=pvs 80 ps) kJ (fun v W hb h=>(yU hl h (s.up hb))) (fun _=>rfl)) kJ fun a w s=> ?_
  refine zBF (uI ((ps.length - 1:Nat):Int)) rfl rfl s iiz kJ (zEd .i64 ((pvs 80 ps).length:Int) 1 ((ps.length - 1:Nat):Int) iiz iiz (by simp only [zY7];rw [zY9];omega)) kJ fun a w s=> ?_
  refine zBF (uB false) rfl rfl s iiz kJ (zR .i64 (i:Int) ((ps.length - 1:Nat):Int) false iiz iiz (zZb.2 oQ) rfl) kJ fun a w s=> ?_
  refine zBF (uB false) rfl rfl s iiz kJ (yJ true iiz fR (fun e=>by cases e)) kJ fun a w s=> ?_
  refine zAS (uB false) rfl s kJ (yJ false iiz (fun e=>by cases e) fR) kJ fun a w s=> ?_
  refine zA rfl ?_
  refine StS.cond s false iiz (fun e=>by cases e) (fun e=> ?_)
  refine zYQ ?_
  refine zYO ?_
  replace s:=s.drop [6]
  refine zB 4 ((51,.X (fMT (zBx (at_ ps k) (tn ps k) (at_ ps i) (tn ps i))) 0)::(52,.Z (wB (.int .i8 (zBx (at_ ps k) (tn ps k) (at_ ps i) (tn ps i)))))::(53,.Z (uB ((zBx (at_ ps k) (tn ps k) (at_ ps i) (tn ps i))==0)))::(6,.u (uB ((zBx (at_ ps k) (tn ps k) (at_ ps i) (tn ps i))==0))):: []) hmix s kJ
   (oc (zL (C:=cg (fMT (zBx (at_ ps k) (tn ps k) (at_ ps i) (tn ps i)))) 0 kJ)<|oc (jE (C:=cg (fMT (zBx (at_ ps k) (tn ps k) (at_ ps i) (tn ps i)))) (k:=0) kJ (h:=zGy _))<|oc (zR .i8 (zBx (at_ ps k) (tn ps k) (at_ ps i) (tn ps i)) 0 ((zBx (at_ ps k) (tn ps k) (at_ ps i) (tn ps i))==0) iiz iiz rfl rfl)<|oc zG<|zD) fun a w10 s=> ?_
  refine zA rfl ?_
  refine zYP ?_
  exact wG s (t:=6) rfl (fun v W h=>by rw [show zAD ps k i=_ from if_neg oQ];exact h)
 ·refine zB 0 [] hmix s kJ
   zD fun a w11 s=> ?_
  refine zAS (uI (i:Int)) rfl s kJ zC kJ fun a w s=> ?_
  refine zAS (uI (k:Int)) rfl s kJ zC kJ fun a w s=> ?_
  refine zAS (uI ((k+1:Nat):Int)) rfl s kJ (yM .i64 (k:Int) 1 ((k+1:Nat):Int) iiz iiz (wrap64 _ _ oQ oQ)) kJ fun a w s=> ?_
  refine zAS (uB false) rfl s kJ (zR .i64 (i:Int) ((k+1:Nat):Int) false iiz iiz (zZb.2 oQ) rfl) kJ fun a w s=> ?_
  refine zAS (uB false) rfl s kJ zC kJ fun a w s=> ?_
  refine zBF (uI (k:Int)) rfl rfl s iiz kJ zC kJ fun a w s=> ?_
  refine zBF (uB false) rfl rfl s iiz kJ (zR .i64 (k:Int) 0 false iiz iiz (zZb.2 oQ) rfl) kJ fun a w s=> ?_
  refine zBF (uB false) rfl rfl s iiz kJ zC kJ fun a w s=> ?_
  refine zBH (.bool false) rfl rfl s iiz kJ kJ (fun a w s=> ?_)
  refine zBH (.bool false) rfl rfl s iiz kJ kJ (fun a w s=> ?_)
  refine zBH (.bool false) rfl rfl s iiz kJ kJ (fun a w s=> ?_)
  refine zBH (.bool false) rfl rfl s iiz kJ kJ (fun a w s=> ?_)
  refine zBH (.bool false) rfl rfl s iiz kJ kJ (fun a w s=> ?_)
  refine zBF (uB false) rfl rfl s iiz kJ (yJ false iiz (fun e=>by cases e) fR) kJ fun a w s=> ?_
  refine zAS (uB false) rfl s kJ (yJ false iiz (fun e=>by cases e) fR) kJ fun a w s=> ?_
  refine zA rfl ?_
  refine StS.cond s false iiz (fun e=>by cases e) (fun e=> ?_)
  refine zYQ ?_
  refine zYO ?_
  replace s:=s.drop [6]
  refine zB 4 ((51,.X (fMT (zBx (at_ ps k) (tn ps k) (at_ ps i) (tn ps i))) 0)::(52,.Z (wB (.int .i8 (zBx (at_ ps k) (tn ps k) (at_ ps i) (tn ps i)))))::(53,.Z (uB ((zBx (at_ ps k) (tn ps k) (at_ ps i) (tn ps i))==0)))::(6,.u (uB ((zBx (at_ ps k) (tn ps k) (at_ ps i) (tn ps i))==0))):: []) hmix s kJ
   (oc (zL (C:=cg (fMT (zBx (at_ ps k) (tn ps k) (at_ ps i) (tn ps i)))) 0 kJ)<|oc (jE (C:=cg (fMT (zBx (at_ ps k) (tn ps k) (at_ ps i) (tn ps i)))) (k:=0) kJ (h:=zGy _))<|oc (zR .i8 (zBx (at_ ps k) (tn ps k) (at_ ps i) (tn ps i)) 0 ((zBx (at_ ps k) (tn ps k) (at_ ps i) (tn ps i))==0) iiz iiz rfl rfl)<|oc zG<|zD) fun a w12 s=> ?_
  refine zA rfl ?_
  refine zYP ?_
  exact wG s (t:=6) rfl (fun v W h=>by rw [show zAD ps k i=_ from if_neg oQ];exact h)
theorem zIj {l:Wu} (hl:(wD 6 (pvs 80 ps)).p l W) (hn:ps.length<=1000000) (hpair: ∀i j,i<ps.length->j<ps.length->i≠j->zEt (at_ ps i) (at_ ps j)):Calls prog 26 #[l] W (Ret W (fB (zD5 ps)).tS):=by
 refine z7 [(wB l).tS] func26 rfl kJ ⟨rfl,trivial⟩ fun a s=> ?_
 replace s:=s.renew [(0,.u (wB l))] (fmz ⟨.inr ⟨_,rfl,.head _⟩,fnz⟩)
 refine zYO ?_
 refine zB 1 ((2,.u (uB false)):: []) hmix s kJ
  (oc zG<|zD) fun a w1 s=> ?_
 refine zA rfl ?_
 refine zYO ?_
 refine zYO ?_
 refine zB 3 ((5,.Z (wB l))::(6,.Z (uI ((pvs 80 ps).length:Int)))::(7,.u (uB (decide (ps.length<3)))):: []) hmix s kJ
  (oc zC<|oc (yW (z:=6) (Cs:=pvs 80 ps) kJ (fun v W hb h=>(yU hl h (s.up hb))) (fun _=>rfl))<|oc (zR .i64 ((pvs 80 ps).length:Int) 3 (decide (ps.length<3)) iiz iiz (by simp only [zY7];rw [decide_eq_decide];omega) rfl)<|zD) fun a w2 s=> ?_
 refine zA rfl ?_
 refine StS.cond s (decide (ps.length<3)) iiz (fun e=> ?_) (fun e=> ?_)
 ·refine zYO ?_
  replace s:=s.drop [2]
  refine zB 1 ((2,.u (uB false)):: []) hmix s kJ
   (oc zG<|zD) fun a w3 s=> ?_
  refine zA rfl ?_
  refine zYP ?_
  exact wG s (t:=2) rfl (fun v W h=>by rw [zI3 (zY1 e)];exact h)
 ·have h3:3<=ps.length:=by have:=zY3 e;omega
  refine zYQ ?_
  refine zYO ?_
  refine zYO ?_
  refine zB 1 ((3,.u (uI 0)):: []) hmix s kJ
   (oc zG<|zD) fun a w4 s=> ?_
  refine zA rfl ?_
  refine zYZ ?_
  refine zAZ (fun i=>i<=ps.length/\ ∀i' k,i'<i->k<i'->((jI (at_ ps i') (at_ ps k)==0)|| !(zAD ps k i'))=false) (fun i=> [(0,.u (wB l)),(3,.u (uI ((i:Nat):Int)))]) (fun i=>ps.length - i) (0:Nat) (⟨zY5 _,fun j k hj=>absurd hj (zZj _)⟩) (s.keepK _ (fmz ⟨mz3,fmz ⟨.head _,fnz⟩⟩)) fun i a w hx s=> ?_
  have hxi:=hx
  refine zYO ?_
  refine zYO ?_
  refine zB 4 ((8,.Z (uI (i:Int)))::(9,.Z (wB l))::(10,.Z (uI ((pvs 80 ps).length:Int)))::(11,.u (uB (ltz i ((pvs 80 ps).length)))):: []) hmix s kJ
   (oc zC<|oc zC<|oc (yW (z:=6) (Cs:=pvs 80 ps) kJ (fun v W hb h=>(yU hl h (s.up hb))) (fun _=>rfl))<|oc (zR .i64 (i:Int) ((pvs 80 ps).length:Int) (ltz i ((pvs 80 ps).length)) iiz iiz rfl rfl)<|zD) fun a w5 s=> ?_
  refine zA rfl ?_
  refine StS.cond s (ltz i ((pvs 80 ps).length)) iiz (fun e=> ?_) (fun e=> ?_)
  ·have hi:i<ps.length:=by have:=zY1 e;simp at this;omega
   refine zYQ ?_
   refine zYO ?_
   refine zYZ ?_
   refine zYO ?_
   refine zB 1 ((4,.u (uI 0)):: []) hmix s kJ
    (oc zG<|zD) fun a w6 s=> ?_
   refine zA rfl ?_
   refine zYZ ?_
   refine zAZ (fun k=>k<=i/\ ∀k',k'<k->((jI (at_ ps i) (at_ ps k')==0)|| !(zAD ps k' i))=false) (fun k=> [(0,.u (wB l)),(3,.u (uI (i:Int))),(4,.u (uI ((k:Nat):Int)))]) (fun k=>i - k) (0:Nat) (⟨zY5 _,fun j hj=>absurd hj (zZj _)⟩) (s.keepK _ (fmz ⟨mz2,fmz ⟨mz3,fmz ⟨.head _,fnz⟩⟩⟩)) fun k a w hx s=> ?_
   refine zYO ?_
   refine zYO ?_
   refine zB 3 ((14,.Z (uI (k:Int)))::(15,.Z (uI (i:Int)))::(16,.u (uB (ltz k i))):: []) hmix s kJ
    (oc zC<|oc zC<|oc (zR .i64 (k:Int) (i:Int) (ltz k i) iiz iiz rfl rfl)<|zD) fun a w7 s=> ?_
   refine zA rfl ?_
   refine StS.cond s (ltz k i) iiz (fun e=> ?_) (fun e=> ?_)
   ·have hk:k<i:=by have:=zY1 e;omega
    have hkl:k<ps.length:=by omega
    refine zYQ ?_
    refine zYO ?_
    refine zYZ ?_
    refine zYO ?_
    refine zB 16 ((19,.Z (wB l))::(20,.Z (uI (i:Int)))::(21,.Y (fPV 80 (at_ ps i)))::(22,.Z (fPV 80 (at_ ps i)))::(23,.Z (wB l))::(24,.Z (uI (k:Int)))::(25,.Y (fPV 80 (at_ ps k)))::(26,.Z (fPV 80 (at_ ps k)))::(27,.Z (uB (jI (at_ ps i) (at_ ps k)==0)))::(28,.Z (uB (jI (at_ ps i) (at_ ps k)==0)))::(29,.s (SF.imp ((jI (at_ ps i) (at_ ps k)==0)=false) ((wB l).tS)))::(30,.s (SF.imp ((jI (at_ ps i) (at_ ps k)==0)=false) ((uI (k:Int)).tS)))::(31,.s (SF.imp ((jI (at_ ps i) (at_ ps k)==0)=false) ((uI (i:Int)).tS)))::(32,.s (SF.imp ((jI (at_ ps i) (at_ ps k)==0)=false) ((uB (zAD ps k i)).tS)))::(33,.s (SF.imp ((jI (at_ ps i) (at_ ps k)==0)=false) ((uB (!(zAD ps k i))).tS)))::(34,.u (uB ((jI (at_ ps i) (at_ ps k)==0)||(!(zAD ps k i))))):: []) hmix s kJ
     (oc zC<|oc zC<|oc (yL (z:=6) (Cs:=pvs 80 ps) (i:=i) (C:=wC (fPV 80 (at_ ps i))) kJ (qI hi) (fun v W hb h=>(yU hl h (s.up hb))) iiz)<|oc (zJ (f:=fPV 80 (at_ ps i)) 6 kJ (hz:=zO _ _))<|oc zC<|oc zC<|oc (yL (z:=6) (Cs:=pvs 80 ps) (i:=k) (C:=wC (fPV 80 (at_ ps k))) kJ (qI hkl) (fun v W hb h=>(yU hl h (s.up hb))) iiz)<|oc (zJ (f:=fPV 80 (at_ ps k)) 6 kJ (hz:=zO _ _))<|oc (zI zE zKw (fun u0 u1 W hb (h0:(fPV 80 (at_ ps i)).p u0 W) (h1:(fPV 80 (at_ ps k)).p u1 W)=>zCP (m:=80) h0 h1 dC dC))<|oc zC<|oc (zF 28 (jI (at_ ps i) (at_ ps k)==0) kJ iiz (fun e=>zQ [] ((wB l).tS) fnz fS kJ zC) fQ)<|oc (zF 28 (jI (at_ ps i) (at_ ps k)==0) kJ iiz (fun e=>zQ [] ((uI (k:Int)).tS) fnz fS kJ zC) fQ)<|oc (zF 28 (jI (at_ ps i) (at_ ps k)==0) kJ iiz (fun e=>zQ [] ((uI (i:Int)).tS) fnz fS kJ zC) fQ)<|oc (zF 28 (jI (at_ ps i) (at_ ps k)==0) kJ iiz (fun e=>zQ [(29,(wB l).tS),(30,(uI (k:Int)).tS),(31,(uI (i:Int)).tS)] ((uB (zAD ps k i)).tS) (fmz ⟨fun v W h=>zK (c:=(jI (at_ ps i) (at_ ps k)==0)=false) (f:=(wB l).tS) e h,fmz ⟨fun v W h=>zK (c:=(jI (at_ ps i) (at_ ps k)==0)=false) (f:=(uI (k:Int)).tS) e h,fmz ⟨fun v W h=>zK (c:=(jI (at_ ps i) (at_ ps k)==0)=false) (f:=(uI (i:Int)).tS) e h,fnz⟩⟩⟩) fS kJ (jF zE zVz (fun u0 u1 u2 W hb (h0:u0=l) (h1:u1= .int .i64 (k:Int)) (h2:u2= .int .i64 (i:Int))=>zKe (ps:=ps) (k:=k) (i:=i) (yU hl h0 (s.up hb)) h1 h2 hk hi hn h3 hpair))) fQ)<|oc (zF 28 (jI (at_ ps i) (at_ ps k)==0) kJ iiz (fun e=>zQ [(32,(uB (zAD ps k i)).tS)] ((uB (!(zAD ps k i))).tS) (fmz ⟨fun v W h=>zK (c:=(jI (at_ ps i) (at_ ps k)==0)=false) (f:=(uB (zAD ps k i)).tS) e h,fnz⟩) fS kJ (zCy (zAD ps k i) iiz (fun _=>rfl))) fQ)<|oc (yJ (jI (at_ ps i) (at_ ps k)==0) iiz (fun e v W h=>zDf h e) (fun e v W h=>zB9 (zK e h) e))<|zD) fun a w8 s=> ?_
    refine zA rfl ?_
    refine StS.cond s ((jI (at_ ps i) (at_ ps k)==0)||(!(zAD ps k i))) iiz (fun e=> ?_) (fun e=> ?_)
    ·refine zYO ?_
     refine zB 1 ((2,.u (uB false)):: []) hmix s kJ
      (oc zG<|zD) fun a w9 s=> ?_
     refine zA rfl ?_
     refine zYP ?_
     exact wG s (t:=2) rfl (fun v W h=>by rw [zQ6 hi hk e];exact h)
    ·refine zYQ ?_
     refine zX 2 ((17,.Z (uI (k:Int)))::(18,.u (uI ((k+1:Nat):Int))):: []) s kJ
      (oc zC<|oc (yM .i64 (k:Int) 1 ((k+1:Nat):Int) iiz iiz (wrap64 _ _ oQ oQ))<|zD) fun a w10 s=> ?_
     replace s:=s.drop [4]
     refine yP (uI ((k+1:Nat):Int)) rfl s kJ iiz fun a w s=> ?_
     refine zA rfl ?_
     exact ⟨k+1,⟨hk,fun j hj=>by rcases zZa (zZf hj) with h|h;exact hx.2 j h;rw [h];exact e⟩,(by show i - (k+1)<i - k;omega),s.keepK _ (fmz ⟨mz4,fmz ⟨mz5,fmz ⟨.head _,fnz⟩⟩⟩)⟩
   ·have hk:k=i:=by have h7:=zY3 e;have h8:=hx.1;omega
    refine zZc ?_
    refine zX 2 ((12,.Z (uI (i:Int)))::(13,.u (uI ((i+1:Nat):Int))):: []) s kJ
     (oc zC<|oc (yM .i64 (i:Int) 1 ((i+1:Nat):Int) iiz iiz (wrap64 _ _ oQ oQ))<|zD) fun a w11 s=> ?_
    replace s:=s.drop [3]
    refine yP (uI ((i+1:Nat):Int)) rfl s kJ iiz fun a w s=> ?_
    refine zA rfl ?_
    exact ⟨i+1,⟨hi,fun j k hj hk=>by rcases zZa (zZf hj) with h|h;exact hxi.2 j k h hk;rw [h];exact hx.2 k oQ⟩,(by show ps.length - (i+1)<ps.length - i;omega),s.keepK _ (fmz ⟨mz3,fmz ⟨.head _,fnz⟩⟩)⟩
  ·have hi:i=ps.length:=by have h7:=zY3 e;have h8:=hx.1;simp at h7;omega
   refine zZc ?_
   refine zYO ?_
   refine zB 1 ((2,.u (uB true)):: []) hmix s kJ
    (oc zG<|zD) fun a w12 s=> ?_
   refine zA rfl ?_
   refine zYP ?_
   exact wG s (t:=2) rfl (fun v W h=>by rw [zNT h3 (fun j k hj hk'=>hx.2 j k oQ hk')];exact h)
theorem cyc {P:Nat->Prop} (hi:i<n) (hj:j<n) (h1:P i) (h2: ¬P j): ∃k,k<n/\P k/\ ¬P ((k+1) % n):=by
 have hne:i≠j:=fun e=>h2 (e▸h1)
 have hjm:(i+(j+n - i)) % n=j:=by rw [show i+(j+n - i)=j+n by omega,Nat.add_mod_right,zYW hj]
 obtain ⟨m,m1,m2,m3,m4⟩:=zG8 (fun m=>P ((i+m) % n)) (s:=0) (e:=j+n - i) oQ (by show P ((i+0) % n);rw [Nat.add_zero,zYW hi];exact h1)
 refine ⟨(i+(m - 1)) % n,zY4 _ oQ,m3 (m - 1) (zY5 _) oQ, ?_⟩
 rw [Nat.mod_add_mod,show i+(m - 1)+1=i+m by omega]
 rcases m4 with e|e
 ·rw [e,hjm];exact h2
 ·exact e
theorem zHR {f:Nat->Bool}: ∀{n:Nat},(∀k,k<n->f k=false)->zEw f n=0
 |0,_=>rfl
 |n+1,h=>by rw [zM8 (h n oQ),zHR fun k hk=>h k oQ]
theorem zJN {f:Nat->Bool} {r s:Nat} (hrs:r≠s): ∀{n:Nat},(∀k,k<n->k≠r->k≠s->f k=false)->zEw f n=(if r<n/\f r=true then 1 else 0)+(if s<n/\f s=true then 1 else 0)
 |0,_=>by rw [if_neg oQ,if_neg oQ];rfl
 | n+1,h=>by
  have ih:=zJN hrs (n:=n) fun k hk=>h k oQ
  by_cases e:f n=true
  ·rw [zQx e,ih]
   by_cases hr:n=r
   ·subst hr
    rw [if_neg (show ¬(n<n/\f n=true) by omega),if_pos (show n<n+1/\f n=true from ⟨by omega,e⟩)]
    by_cases c:s<n/\f s=true
    ·rw [if_pos c,if_pos ⟨by omega,c.2⟩]
    ·rw [if_neg c,if_neg (fun c'=>c ⟨by omega,c'.2⟩)]
   ·by_cases hs:n=s
    ·subst hs
     rw [if_neg (show ¬(n<n/\f n=true) by omega),if_pos (show n<n+1/\f n=true from ⟨by omega,e⟩)]
     by_cases c:r<n/\f r=true
     ·rw [if_pos c,if_pos ⟨by omega,c.2⟩]
     ·rw [if_neg c,if_neg (fun c'=>c ⟨by omega,c'.2⟩)]
    ·rw [h n oQ hr hs] at e;exact absurd e dC
  ·have e':f n=false:=by simpa using e
   rw [zM8 e',ih]
   have k: ∀x,(x<n+1/\f x=true)↔(x<n/\f x=true):=fun x=>⟨fun ⟨a,b⟩=>⟨by
    rcases zZa (zZf a) with q|q
    ·exact q
    ·rw [q] at b;exact absurd b e,b⟩,fun ⟨a,b⟩=>⟨by omega,b⟩⟩
   simp only [k]
theorem zCM (h1:a.2<=y) (h2:y<b.2): ∃X t:Rat,0<=t/\t<1/\(∀f:Aff,f.v (X,y)=f.v a*(1 - t)+f.v b*t)/\ ∀x,crs a b (x,y)=(b.2 - a.2)*(X - x):=by
 have hd:0<b.2 - a.2:=by grind
 have e:(y - a.2) / (b.2 - a.2)*(b.2 - a.2)=y - a.2:=zZd (by grind)
 generalize (y - a.2) / (b.2 - a.2)=t at e
 have t0:0<=t:=by
  apply zYR
  intro hx
  have:=zYS (show 0< -t by grind) hd
  grind
 have t1:t<1:=by
  apply zYR
  intro hx
  have:=zYV (show 0<=t - 1 by grind) (zYT hd)
  grind
 refine ⟨a.1+(b.1 - a.1)*t,t,t0,t1,fun f=> ?_,fun x=> ?_⟩
 ·have hy:y=a.2+(b.2 - a.2)*t:=by grind
  unfold Aff.v
  simp only
  rw [hy]
  grind
 ·unfold crs
  simp only
  have:(b.1 - a.1)*(y - a.2)=(b.1 - a.1)*t*(b.2 - a.2):=by rw [<-e];grind
  rw [this]
  grind
theorem zFh {u v:Rat} (hu:0<=u) (hv:0<=v) (h0:0<=t) (h1:t<=1):0<=u*(1 - t)+v*t:=by
 have k1:=zYV hu (show 0<=1 - t by grind)
 have k2:=zYV hv h0
 grind
theorem zEy {u v:Rat} (hu:0<=u) (hv:0<=v) (h0:0<=t) (h1:t<1) (h:u*(1 - t)+v*t=0):u=0:=by
 have k2:=zYV hv h0
 apply zYR
 intro hx
 have k1:=zYS (show 0<u by grind) (show 0<1 - t by grind)
 grind
def nx (l:List V2) (k:Nat):Nat:=(k+1) % l.length
theorem zFA (h:0<l.length) (k:Nat):nx l k<l.length:=zY4 _ h
theorem zL7 (h3:3<=l.length) {i:Nat} (hi:i<l.length):nx l i≠i/\nx l (nx l i)≠i/\nx l (nx l i)≠nx l i:=by
 unfold nx
 rcases zZg (i+1) l.length with q|q
 ·rw [zYW q]
  rcases zZg (i+1+1) l.length with q'|q'
  ·rw [zYW q'];omega
  ·rw [show i+1+1=l.length by omega,zY8];omega
 ·rw [show i+1=l.length by omega,zY8,zYW (show 0+1<l.length by omega)];omega
theorem zP3 (hi:i<l.length) (hj:j<l.length) (h:nx l i=nx l j):i=j:=by
 unfold nx at h
 rcases zZg (i+1) l.length with q|q<;>rcases zZg (j+1) l.length with q'|q'
 ·rw [zYW q,zYW q'] at h;omega
 ·rw [zYW q,show j+1=l.length by omega,zY8] at h;omega
 ·rw [show i+1=l.length by omega,zY8,zYW q'] at h;omega
 ·omega
def zUt (l:List V2) (y:Rat) (k:Nat):Prop:=(at_ l k).2<=y/\y<(at_ l (nx l k)).2
def zUx (l:List V2) (y:Rat) (k:Nat):Prop:=(at_ l (nx l k)).2<=y/\y<(at_ l k).2
theorem Conv.zero (h:Conv l) {i k:Nat} (hi:i<l.length) (hk:k<l.length) (e:edg l i (at_ l k)=0):k=i∨k=nx l i:=by
 apply zYR
 intro hn
 have:=h.strict i k hi hk (fun q=>hn (.inl q)) (fun q=>hn (.inr q))
 grind
theorem Conv.up_one (h:Conv l) {y:Rat} {i j:Nat} (hi:i<l.length) (hj:j<l.length) (ui:zUt l y i) (uj:zUt l y j):i=j:=by
 have h3:=h.three
 obtain ⟨X,t,t0,t1,f1,c1⟩:=zCM ui.1 ui.2
 obtain ⟨Z,s,s0,s1,f2,c2⟩:=zCM uj.1 uj.2
 have hpi:=zFA (l:=l) oQ i
 have hpj:=zFA (l:=l) oQ j
 have a1:0<=edg l j (X,y):=by rw [<-zAU,f1,zAU,zAU];exact zFh (h.left j i hj hi) (h.left j _ hj hpi) t0 (zYT t1)
 have a2:0<=edg l i (Z,y):=by rw [<-zAU,f2,zAU,zAU];exact zFh (h.left i j hi hj) (h.left i _ hi hpj) s0 (zYT s1)
 have b1:edg l j (X,y)=((at_ l (nx l j)).2 - (at_ l j).2)*(Z - X):=c2 X
 have b2:edg l i (Z,y)=((at_ l (nx l i)).2 - (at_ l i).2)*(X - Z):=c1 Z
 have le: ∀{d u:Rat},0<d->0<=d*u->0<=u:=fun {d u} hd hu=>by
  apply zYR
  intro hx
  have:=zYS hd (show 0< -u by grind)
  grind
 have d1:0<=Z - X:=le (d:=(at_ l (nx l j)).2 - (at_ l j).2) (by have:=uj.1;have:=uj.2;grind) (by rw [<-b1];exact a1)
 have d2:0<=X - Z:=le (d:=(at_ l (nx l i)).2 - (at_ l i).2) (by have:=ui.1;have:=ui.2;grind) (by rw [<-b2];exact a2)
 have e:Z - X=0:=by grind
 have e':X - Z=0:=by grind
 rw [e] at b1
 rw [e'] at b2
 have z1:edg l j (at_ l i)=0:=by
  refine zEy (h.left j i hj hi) (h.left j _ hj hpi) t0 t1 ?_
  rw [<-zAU, <-zAU, <-f1,zAU,b1];grind
 have z2:edg l i (at_ l j)=0:=by
  refine zEy (h.left i j hi hj) (h.left i _ hi hpj) s0 s1 ?_
  rw [<-zAU, <-zAU, <-f2,zAU,b2];grind
 rcases h.zero hj hi z1 with q|q
 ·exact q
 ·rcases h.zero hi hj z2 with q'|q'
  ·exact q'.symm
  ·have:=zL7 h3 hi
   rw [<-q', <-q] at this
   exact absurd rfl this.2.1
theorem Conv.dn_one (h:Conv l) {y:Rat} {i j:Nat} (hi:i<l.length) (hj:j<l.length) (ui:zUx l y i) (uj:zUx l y j):i=j:=by
 have h3:=h.three
 obtain ⟨X,t,t0,t1,f1,c1⟩:=zCM ui.1 ui.2
 obtain ⟨Z,s,s0,s1,f2,c2⟩:=zCM uj.1 uj.2
 have hpi:=zFA (l:=l) oQ i
 have hpj:=zFA (l:=l) oQ j
 have sw: ∀a b p:V2,crs a b p= - crs b a p:=fun a b p=>by unfold crs;grind
 have a1:0<=edg l j (X,y):=by rw [<-zAU,f1,zAU,zAU];exact zFh (h.left j _ hj hpi) (h.left j i hj hi) t0 (zYT t1)
 have a2:0<=edg l i (Z,y):=by rw [<-zAU,f2,zAU,zAU];exact zFh (h.left i _ hi hpj) (h.left i j hi hj) s0 (zYT s1)
 have b1:edg l j (X,y)=((at_ l j).2 - (at_ l (nx l j)).2)*(X - Z):=by
  have:=c2 X
  show crs (at_ l j) (at_ l (nx l j)) (X,y)=_
  rw [sw,this];grind
 have b2:edg l i (Z,y)=((at_ l i).2 - (at_ l (nx l i)).2)*(Z - X):=by
  have:=c1 Z
  show crs (at_ l i) (at_ l (nx l i)) (Z,y)=_
  rw [sw,this];grind
 have le: ∀{d u:Rat},0<d->0<=d*u->0<=u:=fun {d u} hd hu=>by
  apply zYR
  intro hx
  have:=zYS hd (show 0< -u by grind)
  grind
 have d1:0<=X - Z:=le (d:=(at_ l j).2 - (at_ l (nx l j)).2) (by have:=uj.1;have:=uj.2;grind) (by rw [<-b1];exact a1)
 have d2:0<=Z - X:=le (d:=(at_ l i).2 - (at_ l (nx l i)).2) (by have:=ui.1;have:=ui.2;grind) (by rw [<-b2];exact a2)
 have e:X - Z=0:=by grind
 have e':Z - X=0:=by grind
 rw [e] at b1
 rw [e'] at b2
 have z1:edg l j (at_ l (nx l i))=0:=by
  refine zEy (h.left j _ hj hpi) (h.left j i hj hi) t0 t1 ?_
  rw [<-zAU, <-zAU, <-f1,zAU,b1];grind
 have z2:edg l i (at_ l (nx l j))=0:=by
  refine zEy (h.left i _ hi hpj) (h.left i j hi hj) s0 s1 ?_
  rw [<-zAU, <-zAU, <-f2,zAU,b2];grind
 rcases h.zero hj hpi z1 with q|q
 ·rcases h.zero hi hpj z2 with q'|q'
  ·have:=zL7 h3 hi
   rw [q,q'] at this
   exact absurd rfl this.2.1
  ·exact (zP3 hj hi q').symm
 ·exact zP3 hi hj q
theorem zBw:(yQ a b p=1)↔0<crs a b p:=by
 unfold yQ
 have h:=@Rat.num_nonneg (crs a b p)
 have h0:=@zZp (crs a b p)
 rw [Int.sign_eq_one_iff_pos]
 constructor
 ·intro k
  have k1:=h.1 oQ
  have k2:crs a b p≠0:=fun e=>by have:=h0.2 e;omega
  grind
 ·intro k
  have k1:=h.2 (zYT k)
  have k2:(crs a b p).num≠0:=fun e=>by have:=h0.1 e;grind
  omega
theorem zJ2:(yQ a b p=0)↔crs a b p=0:=by
 unfold yQ
 rw [Int.sign_eq_zero_iff_zero,zZp]
theorem qle {p q:Rat}:qsg p q<=0↔p<=q:=by
 rcases zDd p q with e|e|e
 ·rw [e];exact ⟨fun _=>zYT (zHl.1 e),fun _=>by decide⟩
 ·rw [e];exact ⟨fun _=>by rw [zC5.1 e];exact zZk,fun _=>by decide⟩
 ·rw [e];exact ⟨fun h=>absurd h dC,fun h=>absurd (zFO.1 e) (Rat.not_lt.2 h)⟩
theorem qlt {p q:Rat}:qsg p q<0↔p<q:=by
 rcases zDd p q with e|e|e
 ·rw [e];exact ⟨fun _=>zHl.1 e,fun _=>by decide⟩
 ·rw [e];exact ⟨fun h=>absurd h dC,fun h=>by rw [zC5.1 e] at h;exact absurd h (Rat.lt_irrefl)⟩
 ·rw [e];exact ⟨fun h=>absurd h dC,fun h=>absurd (zFO.1 e) (Rat.not_lt.2 (zYT h))⟩
theorem qgt {p q:Rat}:qsg p q>0↔q<p:=by
 have:=qlt (p:=q) (q:=p)
 rw [zIl p q] at this
 exact ⟨fun h=>this.1 oQ,fun h=>by have:=this.2 h;omega⟩
theorem zJK:zCF a b p=true↔a.2<=p.2/\p.2<b.2/\0<crs a b p:=by
 unfold zCF
 rw [zY0,zY0,zZh,zZh,qle,qlt,zYU,zBw]
 exact ⟨fun ⟨⟨a,b⟩,c⟩=>⟨a,b,c⟩,fun ⟨a,b,c⟩=>⟨⟨a,b⟩,c⟩⟩
theorem zDV:zC8 a b p=true↔(a.2<=p.2/\p.2<b.2/\0<crs a b p)∨(b.2<=p.2/\p.2<a.2/\crs a b p<0):=by
 have sw:crs b a p= - crs a b p:=by unfold crs;grind
 unfold zC8
 split
 ·rename_i h
  have:=qgt.1 h
  rw [zJK,sw]
  exact ⟨fun ⟨h1,h2,h3⟩=> .inr ⟨h1,h2,by grind⟩,fun h=>by
   rcases h with ⟨h1,h2,h3⟩|⟨h1,h2,h3⟩
   ·exfalso;grind
   ·exact ⟨h1,h2,by grind⟩⟩
 ·rename_i h
  have: ¬b.2<a.2:=fun k=>h (qgt.2 k)
  rw [zJK]
  exact ⟨fun h=> .inl h,fun h=>by
   rcases h with h|⟨h1,h2,h3⟩
   ·exact h
   ·exfalso;grind⟩
theorem zM2 {a b:Rat} (h:zSm a b r=true):(a<=r/\r<=b)∨(b<=r/\r<=a):=by
 unfold zSm zUZ at h
 rw [zY0,zZh] at h
 obtain ⟨h1,h2⟩:=h
 rcases zDd a r with e|e|e
 ·have k:=zHl.1 e
  rw [e] at h1
  have:qsg r b<=0:=by omega
  exact .inl ⟨zYT k,qle.1 this⟩
 ·have k:=zC5.1 e
  rw [k]
  rcases (zY6:r<=b∨b<=r) with q|q
  ·exact .inl ⟨zZk,q⟩
  ·exact .inr ⟨q,zZk⟩
 ·have k:=zFO.1 e
  rw [e] at h1
  have h1':0<=qsg r b:=by omega
  have:b<=r:=by
   rcases zDd r b with q|q|q
   ·omega
   ·rw [zC5.1 q];exact zZk
   ·exact zYT (zFO.1 q)
  exact .inr ⟨this,zYT k⟩
theorem zU1 (hab:a≠b) (h:onB a b p=true):OnE a b p:=by
 unfold onB at h
 rw [zY0,zY0,zYU,zJ2] at h
 obtain ⟨⟨h0,h1⟩,h2⟩:=h
 have c1:=zM2 h1
 have c2:=zM2 h2
 have key: ∀{d e n:Rat},d≠0->((0<=e/\e<=d)∨(d<=e/\e<=0))-> ∃t:Rat,0<=t/\t<=1/\d*t=e:=fun {d e n} hd hb=>by
  have q:e / d*d=e:=zZd hd
  generalize e / d=t at q
  refine ⟨t, ?_, ?_,by grind⟩
  ·apply zYR
   intro hx
   rcases (zY6:0<=d∨d<=0) with k|k
   ·have:=zYS (show 0< -t by grind) (show 0<d by grind);grind
   ·have:=zYS (show 0< -t by grind) (show 0< -d by grind);grind
  ·apply zYR
   intro hx
   rcases (zY6:0<=d∨d<=0) with k|k
   ·have:=zYS (show 0<t - 1 by grind) (show 0<d by grind);grind
   ·have:=zYS (show 0<t - 1 by grind) (show 0< -d by grind);grind
 unfold crs at h0
 by_cases e:b.1 - a.1=0
 ·have e2:b.2 - a.2≠0:=fun e2=>hab (zYX (by grind) (by grind))
  obtain ⟨t,t0,t1,t2⟩:=key (d:=b.2 - a.2) (e:=p.2 - a.2) (n:=0) e2 (by grind)
  exact ⟨t,t0,t1,zYX (by show p.1=_;grind) (by show p.2=_;grind)⟩
 ·obtain ⟨t,t0,t1,t2⟩:=key (d:=b.1 - a.1) (e:=p.1 - a.1) (n:=0) e (by grind)
  refine ⟨t,t0,t1,zYX (by show p.1=_;grind) ?_⟩
  show p.2=a.2+(b.2 - a.2)*t
  rw [<-t2] at h0
  have:(b.1 - a.1)*((p.2 - a.2) - (b.2 - a.2)*t)=0:=by grind
  rcases zZl.1 this with k|k
  ·exact absurd k e
  ·grind
theorem zU0 (h:OnE a b p):onB a b p=true:=by
 obtain ⟨t,h0,h1,rfl⟩:=h
 exact zTn h0 h1
theorem Conv.ne' (h:Conv l) {i:Nat} (hi:i<l.length):at_ l i≠at_ l (nx l i):=fun e=>by
 have h3:=h.three
 have n:=zL7 h3 hi
 have k:=h.strict i (nx l (nx l i)) hi (zFA oQ _) n.2.1 n.2.2
 unfold edg at k
 rw [show (i+1) % l.length=nx l i from rfl, <-e] at k
 unfold crs at k
 grind
theorem Conv.on_edge (h:Conv l) {p:V2} (hp: ∀i,i<l.length->0<=edg l i p) {i:Nat} (hi:i<l.length) (hz:edg l i p=0):OnE (at_ l i) (at_ l (nx l i)) p:=by
 have h3:=h.three
 have hn:=zL7 h3 hi
 have hni:=zFA (l:=l) oQ i
 have hne:=h.ne' hi
 obtain ⟨j,hj,hj1,_⟩:=zIp h3 hi
 generalize ha:at_ l i=a at*
 generalize hb:at_ l (nx l i)=b at*
 have hz':crs a b p=0:=by rw [<-ha, <-hb];exact hz
 -- a place on the line
 obtain ⟨t,ht⟩: ∃t:Rat,p=(a.1+(b.1 - a.1)*t,a.2+(b.2 - a.2)*t):=by
  unfold crs at hz'
  by_cases e:b.1 - a.1=0
  ·have e2:b.2 - a.2≠0:=fun e2=>hne (zYX (by grind) (by grind))
   have q:(p.2 - a.2) / (b.2 - a.2)*(b.2 - a.2)=p.2 - a.2:=zZd e2
   generalize (p.2 - a.2) / (b.2 - a.2)=t at q
   refine ⟨t,zYX ?_ (by show p.2=_;grind)⟩
   show p.1=a.1+(b.1 - a.1)*t
   rw [e] at hz'
   have:(b.2 - a.2)*(p.1 - a.1)=0:=by grind
   rcases zZl.1 this with k|k
   ·exact absurd k e2
   ·grind
  ·have q:(p.1 - a.1) / (b.1 - a.1)*(b.1 - a.1)=p.1 - a.1:=zZd e
   generalize (p.1 - a.1) / (b.1 - a.1)=t at q
   refine ⟨t,zYX (by show p.1=_;grind) ?_⟩
   show p.2=a.2+(b.2 - a.2)*t
   rw [<-q] at hz'
   have:(b.1 - a.1)*((p.2 - a.2) - (b.2 - a.2)*t)=0:=by grind
   rcases zZl.1 this with k|k
   ·exact absurd k e
   ·grind
 have mix: ∀c d:V2,crs c d p=crs c d a*(1 - t)+crs c d b*t:=fun c d=>by rw [ht];unfold crs;grind
 refine ⟨t, ?_, ?_,ht⟩
 ·-- the edge before
  apply zYR
  intro hx
  have k1:=hp j hj
  have k0:edg l j a=0:=by rw [<-ha];unfold edg;rw [hj1];unfold crs;grind
  have k2:0<edg l j b:=by
   rw [<-hb]
   refine h.strict j (nx l i) hj hni ?_ ?_
   ·intro e
    have:=zL7 h3 hj
    rw [show nx l j=i from hj1,e] at this
    exact absurd rfl this.2.1
   ·rw [hj1];exact hn.1
  unfold edg at k0 k1 k2
  rw [mix,k0] at k1
  have:=zYS k2 (show 0< -t by grind)
  grind
 ·apply zYR
  intro hx
  have k1:=hp (nx l i) hni
  have k0:edg l (nx l i) b=0:=by rw [<-hb];unfold edg crs;grind
  have k2:0<edg l (nx l i) a:=by
   rw [<-ha]
   exact h.strict (nx l i) i hni hi hn.1.symm hn.2.1.symm
  unfold edg at k0 k1 k2
  rw [mix,k0] at k1
  have:=zYS k2 (show 0<t - 1 by grind)
  grind
theorem Conv.on_in (h:Conv l) {p:V2} {k:Nat} (hk:k<l.length) (ho:OnE (at_ l k) (at_ l (nx l k)) p) {i:Nat} (hi:i<l.length):0<=edg l i p:=by
 obtain ⟨t,t0,t1,rfl⟩:=ho
 have k1:=h.left i k hi hk
 have k2:=h.left i (nx l k) hi (zFA oQ k)
 have:=zFh k1 k2 t0 t1
 have e:edg l i ((at_ l k).1+((at_ l (nx l k)).1 - (at_ l k).1)*t,(at_ l k).2+((at_ l (nx l k)).2 - (at_ l k).2)*t)=edg l i (at_ l k)*(1 - t)+edg l i (at_ l (nx l k))*t:=by unfold edg crs;grind
 rw [e];exact this
theorem zUd:edg l i p=crs (at_ l i) (at_ l (nx l i)) p:=rfl
theorem zNa (hi:i<l.length) (hj:j<l.length) (h1:(at_ l i).2<=y) (h2:y<(at_ l j).2):(∃r,r<l.length/\zUt l y r)/\ ∃s,s<l.length/\zUx l y s:=by
 constructor
 ·obtain ⟨k,hk,k1,k2⟩:=cyc (P:=fun k=>(at_ l k).2<=y) hi hj h1 (by grind)
  exact ⟨k,hk,k1,by show y<(at_ l ((k+1) % l.length)).2;grind⟩
 ·obtain ⟨k,hk,k1,k2⟩:=cyc (P:=fun k=>y<(at_ l k).2) hj hi h2 (by grind)
  exact ⟨k,hk,by show (at_ l ((k+1) % l.length)).2<=y;grind,k1⟩
theorem zMw {P Q:Prop} [Decidable P] [Decidable Q] (h:P↔Q):(if P then 1 else 0:Nat)=if Q then 1 else 0:=by
 by_cases c:P
 ·rw [if_pos c,if_pos (h.1 c)]
 ·rw [if_neg c,if_neg (fun q=>c (h.2 q))]
theorem Conv.count (h:Conv l) {p:V2} {r s:Nat} (hr:r<l.length) (hs:s<l.length) (ur:zUt l p.2 r) (ds:zUx l p.2 s):zEw (crK l p) l.length=(if 0<edg l r p then 1 else 0)+(if edg l s p<0 then 1 else 0):=by
 have hrs:r≠s:=fun e=>by
  subst e
  have a:=ur.1
  have b:=ur.2
  have c:=ds.1
  have d:=ds.2
  grind
 rw [zJN hrs fun k hk h1 h2=> ?_]
 ·congr 1
  ·refine zMw ?_
   show (_/\zC8 (at_ l r) (at_ l (nx l r)) p=true)↔0<crs (at_ l r) (at_ l (nx l r)) p
   rw [zDV]
   constructor
   ·rintro ⟨_,⟨_,_,k⟩|⟨a,b,_⟩⟩
    ·exact k
    ·have:=ur.1;have:=ur.2;exfalso;grind
   ·exact fun k=>⟨hr,.inl ⟨ur.1,ur.2,k⟩⟩
  ·refine zMw ?_
   show (_/\zC8 (at_ l s) (at_ l (nx l s)) p=true)↔crs (at_ l s) (at_ l (nx l s)) p<0
   rw [zDV]
   constructor
   ·rintro ⟨_,⟨a,b,_⟩|⟨_,_,k⟩⟩
    ·have:=ds.1;have:=ds.2;exfalso;grind
    ·exact k
   ·exact fun k=>⟨hs,.inr ⟨ds.1,ds.2,k⟩⟩
 ·cases hc:crK l p k with
  |false=>rfl
  |true=>
   have:zC8 (at_ l k) (at_ l (nx l k)) p=true:=hc
   rw [zDV] at this
   rcases this with ⟨a,b,_⟩|⟨a,b,_⟩
   ·exact absurd (h.up_one hk hr ⟨a,b⟩ ur) h1
   ·exact absurd (h.dn_one hk hs ⟨a,b⟩ ds) h2
theorem zJL (h:(∀k,k<l.length->(at_ l k).2<=p.2)∨ ∀k,k<l.length->p.2<(at_ l k).2):zEw (crK l p) l.length=0:=zHR fun k hk=>by
 cases hc:crK l p k with
 |false=>rfl
 | true=>
  have:zC8 (at_ l k) (at_ l (nx l k)) p=true:=hc
  rw [zDV] at this
  have hn:=zFA (l:=l) oQ k
  rcases h with h|h
  ·have a:=h k hk
   have b:=h _ hn
   exfalso
   grind
  ·have a:=h k hk
   have b:=h _ hn
   exfalso
   grind
theorem Conv.where_off (h:Conv l) {p:V2} (hno: ∀k,k<l.length-> ¬OnE (at_ l k) (at_ l (nx l k)) p):zBl l p=2*((zEw (crK l p) l.length % 2:Nat):Int) - 1:=by
 have h3:=h.three
 rw [zGU,show nE l=l.length from if_pos oQ]
 refine if_neg fun k=> ?_
 obtain ⟨i,hi,e⟩:=List.any_eq_true.1 k
 have hi:=zYY.1 hi
 exact hno i hi (zU1 (h.ne' hi) e)
theorem Conv.where_in (h:Conv l) {p:V2} (hp:zQL l p):zBl l p=1:=by
 have h3:=h.three
 rw [h.where_off fun k hk ho=>by
  have:=(ho.crs)
  have:=hp k hk
  rw [zUd] at this
  grind]
 obtain ⟨i,hi,him⟩:=zP7 (fun k=>(at_ l k).2) l.length oQ
 obtain ⟨j,hj,hjm⟩:=zJy (fun k=>(at_ l k).2) l.length oQ
 have v1: ∀q:V2,Aff.v ⟨0,1,0⟩ q=q.2:=fun q=>by unfold Aff.v;grind
 have v2: ∀q:V2,Aff.v ⟨0,-1,0⟩ q= -q.2:=fun q=>by unfold Aff.v;grind
 have m1:=h.cone_lt ⟨0,1,0⟩ (.inr dC) (at_ l j).2 (fun k hk=>by rw [v1];exact hjm k hk) hp
 have m2:=h.cone_lt ⟨0,-1,0⟩ (.inr dC) (-(at_ l i).2) (fun k hk=>by rw [v2];have:=him k hk;grind) hp
 rw [v1] at m1
 rw [v2] at m2
 obtain ⟨⟨r,hr,ur⟩,s,hs,ds⟩:=zNa hi hj (y:=p.2) (by grind) m1
 rw [h.count hr hs ur ds,if_pos (hp r hr),if_neg (by have:=hp s hs;grind)]
 rfl
theorem Conv.where_out (h:Conv l) {p:V2} {i:Nat} (hi:i<l.length) (hp:edg l i p<0):zBl l p= -1:=by
 have h3:=h.three
 rw [h.where_off fun k hk ho=>by
  have:=h.on_in hk ho hi
  grind]
 have key:zEw (crK l p) l.length % 2=0:=by
  by_cases c1: ∀k,k<l.length->(at_ l k).2<=p.2
  ·rw [zJL (.inl c1)]
  by_cases c2: ∀k,k<l.length->p.2<(at_ l k).2
  ·rw [zJL (.inr c2)]
  simp only [Classical.not_forall] at c1 c2
  obtain ⟨a,ha,ha'⟩:=c1
  obtain ⟨b,hb,hb'⟩:=c2
  obtain ⟨⟨r,hr,ur⟩,s,hs,ds⟩:=zNa hb ha (y:=p.2) (by grind) (by grind)
  rw [h.count hr hs ur ds]
  obtain ⟨X,t,t0,t1,f1,c1⟩:=zCM ur.1 ur.2
  obtain ⟨Z,v,v0,v1,f2,c2⟩:=zCM ds.1 ds.2
  have hnr:=zFA (l:=l) oQ r
  have hns:=zFA (l:=l) oQ s
  have gX: ∀k,k<l.length->0<=edg l k (X,p.2):=fun k hk=>by rw [<-zAU,f1,zAU,zAU];exact zFh (h.left k r hk hr) (h.left k _ hk hnr) t0 (zYT t1)
  have gZ: ∀k,k<l.length->0<=edg l k (Z,p.2):=fun k hk=>by rw [<-zAU,f2,zAU,zAU];exact zFh (h.left k _ hk hns) (h.left k s hk hs) v0 (zYT v1)
  have d1:0<(at_ l (nx l r)).2 - (at_ l r).2:=by have:=ur.1;have:=ur.2;grind
  have d2:0<(at_ l s).2 - (at_ l (nx l s)).2:=by have:=ds.1;have:=ds.2;grind
  have e1: ∀x,edg l r (x,p.2)=((at_ l (nx l r)).2 - (at_ l r).2)*(X - x):=c1
  have e2: ∀x,edg l s (x,p.2)=((at_ l s).2 - (at_ l (nx l s)).2)*(x - Z):=fun x=>by
   have:=c2 x
   have sw:edg l s (x,p.2)= - crs (at_ l (nx l s)) (at_ l s) (x,p.2):=by unfold edg crs;unfold nx;grind
   rw [sw,this];grind
  have mul_le: ∀{d u:Rat},0<d->0<=d*u->0<=u:=fun {d u} hd hu=>by
   apply zYR
   intro hx
   have:=zYS hd (show 0< -u by grind)
   grind
  -- between the two it would be in
  have nb: ¬(Z<=p.1/\p.1<=X):=fun ⟨q1,q2⟩=>by
   have:0<=edg l i p:=by
    have gx:=gX i hi
    have gz:=gZ i hi
    unfold edg crs at gx gz hp ⊢
    simp only at gx gz
    have:=h.left i i hi hi
    rcases (zY6:0<=(at_ l ((i+1) % l.length)).2 - (at_ l i).2∨(at_ l ((i+1) % l.length)).2 - (at_ l i).2<=0) with k|k
    ·have m:=zYV k (show 0<=X - p.1 by grind)
     grind
    ·have m:=zYV (show 0<=-((at_ l ((i+1) % l.length)).2 - (at_ l i).2) by grind) (show 0<=p.1 - Z by grind)
     grind
   grind
  have ZX:Z<=X:=by
   have:=mul_le d1 (by rw [<-e1];exact gZ r hr)
   grind
  have pe:p=(p.1,p.2):=rfl
  have x1:(0<edg l r p)↔p.1<X:=by
   rw [pe,e1]
   constructor
   ·intro k
    apply zYR
    intro hx
    have:=zYV (zYT d1) (show 0<=p.1 - X by grind)
    grind
   ·exact fun k=>zYS d1 (by grind)
  have x2:(edg l s p<0)↔p.1<Z:=by
   rw [pe,e2]
   constructor
   ·intro k
    apply zYR
    intro hx
    have:=zYV (zYT d2) (show 0<=p.1 - Z by grind)
    grind
   ·intro k
    have:=zYS d2 (show 0<Z - p.1 by grind)
    grind
  by_cases q:p.1<Z
  ·rw [if_pos (x1.2 (by grind)),if_pos (x2.2 q)]
  ·rw [if_neg (fun k=>nb ⟨by grind,zYT (x1.1 k)⟩),if_neg (fun k=>q (x2.1 k))]
 rw [key]
 rfl
theorem Conv.where_border (h:Conv l) {p:V2} (hp: ∀i,i<l.length->0<=edg l i p) {i:Nat} (hi:i<l.length) (hz:edg l i p=0):zBl l p=0:=zNx (by have:=h.three;omega) hi (zU0 (h.on_edge hp hi hz))
theorem Conv.where_iff (h:Conv l) (p:V2):(zBl l p=1↔ ∀i,i<l.length->0<edg l i p)/\(zBl l p= -1↔ ∃i,i<l.length/\edg l i p<0):=by
 by_cases c1: ∃i,i<l.length/\edg l i p<0
 ·obtain ⟨i,hi,e⟩:=c1
  rw [h.where_out hi e]
  exact ⟨⟨fun k=>absurd k dC,fun k=>by have:=k i hi;exfalso;grind⟩,fun _=>⟨i,hi,e⟩,fun _=>rfl⟩
 ·have c1': ∀i,i<l.length->0<=edg l i p:=fun i hi=>by
   apply zYR
   intro k
   exact c1 ⟨i,hi,by grind⟩
  by_cases c2: ∃i,i<l.length/\edg l i p=0
  ·obtain ⟨i,hi,e⟩:=c2
   rw [h.where_border c1' hi e]
   exact ⟨⟨fun k=>absurd k dC,fun k=>by have:=k i hi;exfalso;grind⟩,fun k=>absurd k dC,fun k=>absurd k c1⟩
  ·have c2': ∀i,i<l.length->0<edg l i p:=fun i hi=>by
    have:=c1' i hi
    have:edg l i p≠0:=fun e=>c2 ⟨i,hi,e⟩
    grind
   rw [h.where_in c2']
   exact ⟨⟨fun _=>c2',fun _=>rfl⟩,fun k=>absurd k dC,fun k=>absurd k c1⟩
theorem zTp (h0:crs a b p=0) (h1:zII (p.1 - a.1,p.2 - a.2) (p.1 - b.1,p.2 - b.2)<=0):onS a b p=true:=by
 unfold onS
 rw [if_neg (by rw [h0];decide)]
 refine zZe ?_
 have h:=@Rat.num_nonneg (zII (p.1 - a.1,p.2 - a.2) (p.1 - b.1,p.2 - b.2))
 have h0:=@zZp (zII (p.1 - a.1,p.2 - a.2) (p.1 - b.1,p.2 - b.2))
 generalize zII (p.1 - a.1,p.2 - a.2) (p.1 - b.1,p.2 - b.2)=q at*
 rcases Int.lt_trichotomy q.num 0 with k|k|k
 ·rw [Int.sign_eq_neg_one_of_neg k];decide
 ·rw [k];decide
 ·exfalso
  have k1:=h.1 oQ
  have:q=0:=by grind
  have:=h0.2 this
  omega
theorem zOx (h:OnE a b p):onS a b p=true:=by
 refine zTp h.crs ?_
 obtain ⟨t,t0,t1,rfl⟩:=h
 have k1:=zYV t0 (show 0<=1 - t by grind)
 have sq: ∀x:Rat,0<=x*x:=fun x=>by
  rcases (zY6:0<=x∨x<=0) with k|k
  ·exact zYV k k
  ·have:=zYV (show 0<=-x by grind) (show 0<=-x by grind);grind
 have k2:=zYV k1 (show 0<=(b.1 - a.1)*(b.1 - a.1)+(b.2 - a.2)*(b.2 - a.2) by have:=sq (b.1 - a.1);have:=sq (b.2 - a.2);grind)
 unfold zII
 simp only
 grind
theorem zRH (a b:V2):OnE a b a:=⟨0,by decide,by decide,zYX (by show a.1=a.1+(b.1 - a.1)*0;grind) (by show a.2=a.2+(b.2 - a.2)*0;grind)⟩
theorem zTq (a b:V2):OnE a b b:=⟨1,by decide,by decide,zYX (by show b.1=a.1+(b.1 - a.1)*1;grind) (by show b.2=a.2+(b.2 - a.2)*1;grind)⟩
theorem zRC {L:List V2}:L≠ []->zGn L p≠ []:=fun h=>by
 unfold zGn
 split
 ·exact h
 ·simp
theorem zOm (L:List V2) (p:V2):zGn L p≠ []:=by
 unfold zGn
 split
 ·rename_i h
  rw [zY0,zZh] at h
  intro e
  rw [e] at h
  exact absurd h.1 (by simp)
 ·simp
theorem zMU {a b c d:V2}: ∀(n i:Nat),i<n->(onS a b (at_ [a,b,c,d] i)&&onS c d (at_ [a,b,c,d] i))=true->yR a b c d n≠ []
 | n+1,i,hi,h=>by
  show (if _ then _ else _)≠ []
  by_cases e:i=n
  ·subst e
   rw [if_pos h]
   exact zOm _ _
  ·have ih:=zMU n i oQ h
   split
   ·exact zRC ih
   ·exact ih
theorem zNW {c d:V2} (hab:a≠b) (hk:zBx a b c d=0) {z:V2} (h1:OnE a b z) (h2:OnE c d z):False:=by
 have hpl:(pns (yR a b c d 4)).length=(yR a b c d 4).length:=by simp [pns]
 unfold zBx at hk
 rw [hpl] at hk
 have hl0: ¬(((yR a b c d 4).length:Int)≥2):=fun e=>by rw [if_pos e] at hk;exact absurd hk dC
 rw [if_neg hl0] at hk
 have hl1: ¬(((yR a b c d 4).length:Int)==1)=true:=fun e=>by rw [if_pos e] at hk;exact absurd hk dC
 rw [if_neg hl1] at hk
 have hp: ¬((!(decide (dnm a b c d=0))&&onS a b (yZ a b c d))&&onS c d (yZ a b c d))=true:=fun e=>by rw [if_pos e] at hk;exact absurd hk dC
 have hnil:yR a b c d 4= []:=by
  rw [zYU] at hl1
  exact List.eq_nil_of_length_eq_zero oQ
 have no: ∀i,i<4-> ¬(OnE a b (at_ [a,b,c,d] i)/\OnE c d (at_ [a,b,c,d] i)):=fun i hi ⟨k1,k2⟩=>zMU 4 i hi (by rw [zOx k1,zOx k2];rfl) hnil
 have hz:=h2.crs
 by_cases hd:dnm a b c d=0
 ·-- on one line
  have na:=no 0 oQ
  have nb:=no 1 oQ
  have nc:=no 2 oQ
  have ndd:=no 3 oQ
  have na': ¬OnE c d a:=fun k=>na ⟨zRH a b,k⟩
  have nb': ¬OnE c d b:=fun k=>nb ⟨zTq a b,k⟩
  have nc': ¬OnE a b c:=fun k=>nc ⟨k,zRH c d⟩
  have nd': ¬OnE a b d:=fun k=>ndd ⟨k,zTq c d⟩
  obtain ⟨t,t0,t1,e1⟩:=h1
  obtain ⟨s,s0,s1,e2⟩:=h2
  have u0:((b.1 - a.1,b.2 - a.2):V2)≠(0,0):=fun e=>hab (by
   have q1:=congrArg Prod.fst e
   have q2:=congrArg Prod.snd e
   simp only at q1 q2
   exact zYX (by grind) (by grind))
  have hN:=zIY u0
  simp only at hN
  generalize hN':(b.1 - a.1)*(b.1 - a.1)+(b.2 - a.2)*(b.2 - a.2)=N at hN
  -- places on the line, in parts of a - b
  have zx:z.1=a.1+(b.1 - a.1)*t:=by rw [e1]
  have zy:z.2=a.2+(b.2 - a.2)*t:=by rw [e1]
  have zx':z.1=c.1+(d.1 - c.1)*s:=by rw [e2]
  have zy':z.2=c.2+(d.2 - c.2)*s:=by rw [e2]
  unfold dnm at hd
  -- d - c is along b - a
  have par: ∃m:Rat,d.1 - c.1=(b.1 - a.1)*m/\d.2 - c.2=(b.2 - a.2)*m:=by
   have q:((d.1 - c.1)*(b.1 - a.1)+(d.2 - c.2)*(b.2 - a.2)) / N*N=(d.1 - c.1)*(b.1 - a.1)+(d.2 - c.2)*(b.2 - a.2):=zZd (by grind)
   generalize ((d.1 - c.1)*(b.1 - a.1)+(d.2 - c.2)*(b.2 - a.2)) / N=m at q
   have canc: ∀{x:Rat},x*N=0->x=0:=fun {x} hx=>by
    rcases zZl.1 hx with k|k
    ·exact k
    ·grind
   refine ⟨m, ?_, ?_⟩
   ·have:(d.1 - c.1 - (b.1 - a.1)*m)*N=0:=by
     have e:(b.1 - a.1)*m*N=(b.1 - a.1)*((d.1 - c.1)*(b.1 - a.1)+(d.2 - c.2)*(b.2 - a.2)):=by rw [<-q];grind
     have:(d.1 - c.1 - (b.1 - a.1)*m)*N=(d.1 - c.1)*N - (b.1 - a.1)*m*N:=by grind
     rw [this,e, <-hN']
     grind
    have:=canc this
    grind
   ·have:(d.2 - c.2 - (b.2 - a.2)*m)*N=0:=by
     have e:(b.2 - a.2)*m*N=(b.2 - a.2)*((d.1 - c.1)*(b.1 - a.1)+(d.2 - c.2)*(b.2 - a.2)):=by rw [<-q];grind
     have:(d.2 - c.2 - (b.2 - a.2)*m)*N=(d.2 - c.2)*N - (b.2 - a.2)*m*N:=by grind
     rw [this,e, <-hN']
     grind
    have:=canc this
    grind
  obtain ⟨m,m1,m2⟩:=par
  -- c at t - m s, d at t + m (1 - s)
  have cx:c.1=a.1+(b.1 - a.1)*(t - m*s):=by rw [m1] at zx';grind
  have cy:c.2=a.2+(b.2 - a.2)*(t - m*s):=by rw [m2] at zy';grind
  have dx:d.1=a.1+(b.1 - a.1)*(t - m*s+m):=by grind
  have dy:d.2=a.2+(b.2 - a.2)*(t - m*s+m):=by grind
  have kc: ¬(0<=t - m*s/\t - m*s<=1):=fun k=>nc' ⟨_,k.1,k.2,zYX cx cy⟩
  have kd: ¬(0<=t - m*s+m/\t - m*s+m<=1):=fun k=>nd' ⟨_,k.1,k.2,zYX dx dy⟩
  -- a at the part r of c - d
  have onx: ∀x:Rat,((t - m*s<=x/\x<=t - m*s+m)∨(t - m*s+m<=x/\x<=t - m*s))->OnE c d (a.1+(b.1 - a.1)*x,a.2+(b.2 - a.2)*x):=fun x hx=>by
   by_cases hm:m=0
   ·have:x=t - m*s:=by subst hm;grind
    rw [this]
    have:=zRH c d
    rwa [show c=(a.1+(b.1 - a.1)*(t - m*s),a.2+(b.2 - a.2)*(t - m*s)) from zYX cx cy] at this ⊢
   ·have q:(x - (t - m*s)) / m*m=x - (t - m*s):=zZd hm
    generalize (x - (t - m*s)) / m=r at q
    refine ⟨r, ?_, ?_,zYX (by show _=c.1+(d.1 - c.1)*r;rw [m1,cx];grind) (by show _=c.2+(d.2 - c.2)*r;rw [m2,cy];grind)⟩
    ·apply zYR
     intro hr
     rcases (zY6:0<=m∨m<=0) with k|k
     ·have:=zYS (show 0< -r by grind) (show 0<m by grind);grind
     ·have:=zYS (show 0< -r by grind) (show 0< -m by grind);grind
    ·apply zYR
     intro hr
     rcases (zY6:0<=m∨m<=0) with k|k
     ·have:=zYS (show 0<r - 1 by grind) (show 0<m by grind);grind
     ·have:=zYS (show 0<r - 1 by grind) (show 0< -m by grind);grind
  have onxa: ¬((t - m*s<=0/\0<=t - m*s+m)∨(t - m*s+m<=0/\0<=t - m*s)):=fun k=>na' (by
   have:=onx 0 k
   rwa [show ((a.1+(b.1 - a.1)*0,a.2+(b.2 - a.2)*0):V2)=a from zYX (by show a.1+_*0=a.1;grind) (by show a.2+_*0=a.2;grind)] at this)
  -- t lies between the two
  have bt:(t - m*s<=t/\t<=t - m*s+m)∨(t - m*s+m<=t/\t<=t - m*s):=by
   rcases (zY6:0<=m∨m<=0) with k|k
   ·have:=zYV k s0
    have:=zYV k (show 0<=1 - s by grind)
    exact .inl ⟨by grind,by grind⟩
   ·have:=zYV (show 0<=-m by grind) s0
    have:=zYV (show 0<=-m by grind) (show 0<=1 - s by grind)
    exact .inr ⟨by grind,by grind⟩
  generalize t - m*s=x at*
  generalize x+m=y at*
  grind
 ·-- the lines' one point
  obtain ⟨t,t0,t1,e1⟩:=h1
  have e3:crs c d (seg a b t)=tnm a c d - t*dnm a b c d:=by
   unfold crs seg tnm dnm
   grind
  have e4:z=seg a b t:=e1
  rw [e4,e3] at hz
  have et:tnm a c d / dnm a b c d=t:=by
   rw [show tnm a c d=t*dnm a b c d by grind]
   rw [Rat.div_def,Rat.mul_assoc,Rat.mul_inv_cancel _ hd,Rat.mul_one]
  have ez:yZ a b c d=z:=by
   unfold yZ
   rw [if_neg hd,et,e4]
  refine hp ?_
  rw [ez,zOx ⟨t,t0,t1,e1⟩,zOx h2,zZn hd]
  rfl
theorem zJO (h:p=q):(jI p q==0)=true:=by
 subst h
 unfold jI
 rw [if_pos (zC5.2 rfl),zC5.2 rfl]
 rfl
theorem zK3 (h:zD5 l=true) (hl: ∀i,i<l.length->0<crs (at_ l i) (at_ l ((i+1) % l.length)) (at_ l ((i+2) % l.length))):Conv l:=by
 unfold zD5 at h
 rw [zY0,zZh,zY2] at h
 obtain ⟨h3,h⟩:=h
 have good: ∀i k,k<i->i<l.length->(jI (at_ l i) (at_ l k)==0)=false/\zAD l k i=true:=fun i k hk hi=>by
  have:=zY2.1 (h i (zYY.2 hi)) k (zYY.2 hk)
  unfold zO6 at this
  rw [Bool.not_eq_true',zZi,Bool.not_eq_false'] at this
  exact this
 have ne: ∀i k,i<l.length->k<l.length->i≠k->at_ l i≠at_ l k:=fun i k hi hk hik e=>by
  rcases Nat.lt_or_gt_of_ne hik with q|q
  ·have:=(good k i q hk).1
   rw [zJO e.symm] at this
   exact absurd this dC
  ·have:=(good i k q hi).1
   rw [zJO e] at this
   exact absurd this dC
 have nxe: ∀k,k<l.length->(k+1) % l.length=if k+1=l.length then 0 else k+1:=fun k hk=>by
  split
  ·rename_i e;rw [e,zY8]
  ·exact zYW oQ
 have ap: ∀k i,k<i->i<l.length->i≠(k+1) % l.length->k≠(i+1) % l.length-> ∀z,OnE (at_ l k) (at_ l ((k+1) % l.length)) z->OnE (at_ l i) (at_ l ((i+1) % l.length)) z->False:=fun k i hki hi h1 h2 z o1 o2=>by
  have:=(good i k hki hi).2
  unfold zAD at this
  rw [nxe k oQ] at h1
  rw [nxe i hi] at h2
  rw [if_neg (by
   rintro (e|⟨e,e'⟩)
   ·rw [if_neg oQ] at h1;omega
   ·rw [if_pos oQ] at h2;omega)] at this
  refine zNW (ne k _ oQ (zY4 _ oQ) ?_) (zYU.1 this) o1 o2
  rw [nxe k oQ]
  split<;>omega
 refine vQ ⟨h3,hl,fun i j hi hj hij h1 h2 z o1 o2=> ?_,ne⟩
 rcases Nat.lt_or_gt_of_ne hij with q|q
 ·exact ap i j q hj h1 h2 z o1 o2
 ·exact ap j i q hi h2 h1 z o2 o1
abbrev zns (L:List Int):List CU:=L.map fun z=>wF [.int .i64 z]
def pvx (ps:List V2) (k:Nat):Nat:=(k+ps.length - 1) % ps.length
def zEV (ps:List V2) (k:Nat):Int:=yQ (at_ ps (pvx ps k)) (at_ ps k) (at_ ps ((k+1) % ps.length))
def zC2 (ps:List V2) (k:Nat):List Int:=(List.range k).map (zEV ps)
def qL (ps:List V2):List Int:=if ps.length<3 then [] else zC2 ps ps.length
theorem zH7 (ps:List V2) (k:Nat):zns (zC2 ps (k+1))=zns (zC2 ps k)++ [wF [.int .i64 (zEV ps k)]]:=by simp [zC2,List.range_succ]
theorem zJ0 (ps:List V2) (k:Nat):(zC2 ps k).length=k:=by simp [zC2]
theorem zJZ (ps:List V2):(qL ps).length<=ps.length:=by unfold qL;split<;>simp [zC2]
theorem zQN {L:List Int} (h:k<L.length):(zns L)[k]?=some (wF [.int .i64 (L.getD k 0)]):=by
 rw [List.getElem?_map,zZm h,zZq,zZm h];rfl
theorem zQO (z:Int) (cs:List Wu) (W:Wt) (h:(wF [.int .i64 z]).p cs W): ∃u,cs[0]?=some u/\(uI z).p u W:=by
 obtain rfl:cs=_:=h
 exact ⟨_,rfl,rfl⟩
def zC1 (ps:List V2):Bool:=(qL ps).all (fun z=>z==1)&&zD5 ps
theorem zPq (hk:k<(qL ps).length) (h:((qL ps).getD k 0 !=1)=true):zC1 ps=false:=by
 unfold zC1
 rw [Bool.and_eq_false_iff]
 left
 rw [zZo]
 rw [zZq,zZm hk] at h
 exact ⟨_,List.getElem_mem hk,by simpa using h⟩
theorem zM4 (h: ∀j,j<(qL ps).length->((qL ps).getD j 0 !=1)=false):zC1 ps=zD5 ps:=by
 unfold zC1
 have:(qL ps).all (fun z=>z==1)=true:=by
  rw [zY2]
  intro z hz
  obtain ⟨j,hj,rfl⟩:=List.getElem_of_mem hz
  have:=h j hj
  rw [zZq,zZm hj] at this
  simpa using this
 rw [this,Bool.true_and]
theorem zKA (h:zC1 ps=true):Conv ps:=by
 unfold zC1 at h
 rw [zY0] at h
 obtain ⟨h1,h2⟩:=h
 have h3:3<=ps.length:=by
  apply zYR
  intro hx
  rw [zI3 oQ] at h2
  exact absurd h2 dC
 refine zK3 h2 fun i hi=> ?_
 unfold qL at h1
 rw [if_neg oQ,zY2] at h1
 have:=h1 (zEV ps ((i+1) % ps.length)) (List.mem_map.2 ⟨_,zYY.2 (zY4 _ oQ),rfl⟩)
 have hs:=zBw.1 (zYU.1 this)
 have e1:pvx ps ((i+1) % ps.length)=i:=by
  unfold pvx
  rcases zZg (i+1) ps.length with q|q
  ·rw [zYW q,show i+1+ps.length - 1=i+ps.length by omega,Nat.add_mod_right,zYW hi]
  ·rw [show i+1=ps.length by omega,zY8,Nat.zero_add,zYW oQ];omega
 rw [e1,Nat.mod_add_mod] at hs
 exact hs
theorem zGh {r:V2} (h1:(fPV m p).p u W) (h2:(fPV m q).p v W) (h3:(fPV m r).p x W) (hm:m<=246) (hm0:0<m):Calls prog 54 #[u,v,x] W (Ret W (fI (yQ p q r)).tS):=by
 have hp:=zB6 hm0 h1
 have hq:=zB6 hm0 h2
 have hr:=zB6 hm0 h3
 refine z7 [(fPV m p).tS,(fPV m q).tS,(fPV m r).tS] func54 rfl kJ ⟨h1,h2,h3,trivial⟩ fun a s=> ?_
 refine zYO ?_
 refine zB 0 [] hmix s kJ
  zD fun a w1 s=> ?_
 refine yG (wC (fPV m p)) rfl s kJ (fun v W h=>yO h) fun b3 a w s=> ?_
 refine yG (wC (fPV m q)) rfl s kJ (fun v W h=>yO h) fun b4 a w s=> ?_
 refine yG (wC (fPV m r)) rfl s kJ (fun v W h=>yO h) fun b5 a w s=> ?_
 refine yP (uI 0) rfl s kJ iiz fun a w s=> ?_
 refine zA rfl ?_
 refine zYO ?_
 replace s:=s.drop [6]
 refine zB 9 ((7,.Z (fPV m q))::(8,.Z (fPV m p))::(9,.Z (fPN ((q).1 - (p).1,(q).2 - (p).2)))::(10,.Z (fPV m r))::(11,.Z (fPV m p))::(12,.Z (fPN ((r).1 - (p).1,(r).2 - (p).2)))::(13,.Z (fQN (crs p q r)))::(14,.Z (uI (yQ p q r)))::(6,.u (uI (yQ p q r))):: []) hmix s kJ
  (oc (zJ (f:=fPV m q) 6 kJ (hz:=zO _ _))<|oc (zJ (f:=fPV m p) 6 kJ (hz:=zO _ _))<|oc (zI zE zFE (fun u0 u1 W hb (h0:(fPV m q).p u0 W) (h1:(fPV m p).p u1 W)=>zBQ (m:=m) (p:=q) (q:=p) h0 h1 oQ hm0))<|oc (zJ (f:=fPV m r) 6 kJ (hz:=zO _ _))<|oc (zJ (f:=fPV m p) 6 kJ (hz:=zO _ _))<|oc (zI zE zFE (fun u0 u1 W hb (h0:(fPV m r).p u0 W) (h1:(fPV m p).p u1 W)=>zBQ (m:=m) (p:=r) (q:=p) h0 h1 oQ hm0))<|oc (zI zE zPb (fun u0 u1 W hb (h0:(fPN ((q).1 - (p).1,(q).2 - (p).2)).p u0 W) (h1:(fPN ((r).1 - (p).1,(r).2 - (p).2)).p u1 W)=>zE6 (m:=2*m+1) (p:=((q).1 - (p).1,(q).2 - (p).2)) (q:=((r).1 - (p).1,(r).2 - (p).2)) (zAz (p:=((q).1 - (p).1,(q).2 - (p).2)) (m:=(2*m+1)) ((zA8 hq hp).1.mono (by first|omega|decide)) ((zA8 hq hp).2.mono (by first|omega|decide)) h0) (zAz (p:=((r).1 - (p).1,(r).2 - (p).2)) (m:=(2*m+1)) ((zA8 hr hp).1.mono (by first|omega|decide)) ((zA8 hr hp).2.mono (by first|omega|decide)) h1) (zA8 hq hp) (zA8 hr hp) oQ oQ))<|oc (zH zE zPi (fun u0 W hb (h0:QNp (crs p q r) u0 W)=>zEE (m:=((2*m+1)+(2*m+1)+((2*m+1)+(2*m+1))+1)) (wK h0 (((zA8 hq hp).1.mul (zA8 hr hp).2).sub ((zA8 hq hp).2.mul (zA8 hr hp).1))) oQ))<|oc zG<|zD) fun a w2 s=> ?_
 refine zA rfl ?_
 refine zYP ?_
 exact wG s (t:=6) rfl iiz
theorem zLm {l:Wu} (hl:(wD 6 (pvs m ps)).p l W) (hm:m<=246) (hm0:0<m) (hn:ps.length<=1000000):Calls prog 25 #[l] W (Ret W (wD 1 (zns (qL ps)))):=by
 refine z7 [(wB l).tS] func25 rfl kJ ⟨rfl,trivial⟩ fun a s=> ?_
 replace s:=s.renew [(0,.u (wB l))] (fmz ⟨.inr ⟨_,rfl,.head _⟩,fnz⟩)
 refine zYO ?_
 refine zB 1 ((2,.u (wB (sN))):: []) hmix s kJ
  (oc zG<|zD) fun a w1 s=> ?_
 refine zA rfl ?_
 refine zYO ?_
 refine zYO ?_
 refine zB 3 ((5,.Z (wB l))::(6,.Z (uI ((pvs m ps).length:Int)))::(7,.u (uB (decide (ps.length<3)))):: []) hmix s kJ
  (oc zC<|oc (yW (z:=6) (Cs:=pvs m ps) kJ (fun v W hb h=>(yU hl h (s.up hb))) (fun _=>rfl))<|oc (zR .i64 ((pvs m ps).length:Int) 3 (decide (ps.length<3)) iiz iiz (by simp only [zY7];rw [decide_eq_decide];omega) rfl)<|zD) fun a w2 s=> ?_
 refine zA rfl ?_
 refine StS.cond s (decide (ps.length<3)) iiz (fun e=> ?_) (fun e=> ?_)
 ·refine zYO ?_
  replace s:=s.drop [2]
  refine zB 1 ((2,.u (wB (sN))):: []) hmix s kJ
   (oc zG<|zD) fun a w3 s=> ?_
  refine zA rfl ?_
  refine zYP ?_
  exact StS.resN s (Below.refl _ _) rfl (by rw [s.val (.head _)];rw [show qL ps= [] from if_pos (zY1 e)];exact zIe 1 _)
 ·refine zYQ ?_
  refine zYO ?_
  refine zB 1 ((3,.u (wB (sN))):: []) hmix s kJ
   (oc zG<|zD) fun a w4 s=> ?_
  refine zA rfl ?_
  refine zYO ?_
  refine zYO ?_
  refine zB 1 ((4,.u (uI 0)):: []) hmix s kJ
   (oc zG<|zD) fun a w5 s=> ?_
  refine zA rfl ?_
  refine zYZ ?_
  have h3:3<=ps.length:=by have:=zY3 e;simp at this;omega
  obtain ⟨base,hbase⟩: ∃b,b=w5.heap.size:=⟨_,rfl⟩
  have hb0:W.heap.size<=base:=by rw [hbase];exact s.gr.size
  have hsz0:base<=w5.heap.size:=by rw [hbase];exact Nat.le_refl _
  refine zD4 (fun (p:Nat×Wu) w=>p.1<=ps.length/\base<=w.heap.size/\zAE w base 3 1 p.2 (zns (zC2 ps p.1))) (fun p=> [(0,.u (wB l)),(3,.u (wB (p.2))),(4,.u (uI (p.1:Int)))]) (fun p=>ps.length - p.1) (0, sN) (⟨zY5 _,hsz0,zAE.nil _ _ _ _⟩) (s.keepK _ (fmz ⟨mz4,fmz ⟨mz1,fmz ⟨.head _,fnz⟩⟩⟩)) fun p a w hI s=> ?_
  have s0:=s
  have hlw:=(wD 6 (pvs m ps)).st _ _ _ hl s0.below
  replace s:=s.reb rfl [(0,.u (wB l)),(3,.u (wB (p.2))),(4,.u (uI (p.1:Int)))] (fmz ⟨.inl (.head _),fmz ⟨.inl mz1,fmz ⟨.inl mz2,fnz⟩⟩⟩)
  refine zYO ?_
  refine zYO ?_
  refine zB 4 ((8,.Z (uI (p.1:Int)))::(9,.Z (wB l))::(10,.Z (uI ((pvs m ps).length:Int)))::(11,.u (uB (ltz p.1 ((pvs m ps).length)))):: []) hmix s kJ
   (oc zC<|oc zC<|oc (yW (z:=6) (Cs:=pvs m ps) kJ (fun v W hb h=>(yU hlw h (s.up hb))) (fun _=>rfl))<|oc (zR .i64 (p.1:Int) ((pvs m ps).length:Int) (ltz p.1 ((pvs m ps).length)) iiz iiz rfl rfl)<|zD) fun a w6 s=> ?_
  refine zA rfl ?_
  refine StS.cond s (ltz p.1 ((pvs m ps).length)) iiz (fun e=> ?_) (fun e=> ?_)
  ·have hk:p.1<ps.length:=by have:=zY1 e;simp at this;omega
   have hpi:(pvx ps p.1)<ps.length:=zY4 _ oQ
   have hni:((p.1+1) % ps.length)<ps.length:=zY4 _ oQ
   have hlz:(pvs m ps).length=ps.length:=by simp
   refine zYQ ?_
   refine zYO ?_
   refine zYZ ?_
   refine zCr (K:= [(11,.u (uB (ltz p.1 ((pvs m ps).length)))),(0,.u (wB l)),(4,.u (uI (p.1:Int)))]) [(3,.u (wB (p.2)))] [0,1,2,3,7,12,13,16,17,19] 26 ((14,.u (wB (p.2)))::(15,.Z (wB l))::(16,.Z (uI (p.1:Int)))::(17,.Z (wB l))::(18,.Z (uI ((pvs m ps).length:Int)))::(19,.Z (uI ((p.1+ps.length:Nat):Int)))::(20,.Z (uI ((p.1+ps.length - 1:Nat):Int)))::(21,.Z (wB l))::(22,.Z (uI ((pvs m ps).length:Int)))::(23,.Z (uI (((pvx ps p.1):Nat):Int)))::(24,.Y (fPV m (at_ ps (pvx ps p.1))))::(25,.Z (fPV m (at_ ps (pvx ps p.1))))::(26,.Z (wB l))::(27,.Z (uI (p.1:Int)))::(28,.Y (fPV m (at_ ps p.1)))::(29,.Z (fPV m (at_ ps p.1)))::(30,.Z (wB l))::(31,.Z (uI (p.1:Int)))::(32,.Z (uI ((p.1+1:Nat):Int)))::(33,.Z (wB l))::(34,.Z (uI ((pvs m ps).length:Int)))::(35,.Z (uI ((((p.1+1) % ps.length):Nat):Int)))::(36,.Y (fPV m (tn ps p.1)))::(37,.Z (fPV m (tn ps p.1)))::(38,.Z (uI (zEV ps p.1)))::(39,.s (wD 1 [wF [.int .i64 (zEV ps p.1)]])):: []) hmix (s.keepK _ (fmz ⟨mz2,fmz ⟨.head _,fmz ⟨mz1,fmz ⟨mz3,fnz⟩⟩⟩⟩)) kJ
    (oc zC<|oc zC<|oc zC<|oc zC<|oc (yW (z:=6) (Cs:=pvs m ps) kJ (fun v W hb h=>(yU hlw h (s.up hb))) (fun _=>rfl))<|oc (yM .i64 (p.1:Int) ((pvs m ps).length:Int) ((p.1+ps.length:Nat):Int) iiz iiz (by rw [hlz,zY9];omega))<|oc (zEd .i64 ((p.1+ps.length:Nat):Int) 1 ((p.1+ps.length - 1:Nat):Int) iiz iiz (by rw [zY9];omega))<|oc zC<|oc (yW (z:=6) (Cs:=pvs m ps) kJ (fun v W hb h=>(yU hlw h (s.up hb))) (fun _=>rfl))<|oc (zCa .i64 ((p.1+ps.length - 1:Nat):Int) ((pvs m ps).length:Int) (((pvx ps p.1):Nat):Int) iiz iiz oQ (by rw [hlz];exact zD9 _ _))<|oc (yL (z:=6) (Cs:=pvs m ps) (i:=(pvx ps p.1)) (C:=wC (fPV m (at_ ps (pvx ps p.1)))) kJ (qI hpi) (fun v W hb h=>(yU hlw h (s.up hb))) iiz)<|oc (zJ (f:=fPV m (at_ ps (pvx ps p.1))) 6 kJ (hz:=zO _ _))<|oc zC<|oc zC<|oc (yL (z:=6) (Cs:=pvs m ps) (i:=p.1) (C:=wC (fPV m (at_ ps p.1))) kJ (qI hk) (fun v W hb h=>(yU hlw h (s.up hb))) iiz)<|oc (zJ (f:=fPV m (at_ ps p.1)) 6 kJ (hz:=zO _ _))<|oc zC<|oc zC<|oc (yM .i64 (p.1:Int) 1 ((p.1+1:Nat):Int) iiz iiz (by rw [zY9];omega))<|oc zC<|oc (yW (z:=6) (Cs:=pvs m ps) kJ (fun v W hb h=>(yU hlw h (s.up hb))) (fun _=>rfl))<|oc (zCa .i64 ((p.1+1:Nat):Int) ((pvs m ps).length:Int) ((((p.1+1) % ps.length):Nat):Int) iiz iiz oQ (by rw [hlz];exact zD9 _ _))<|oc (yL (z:=6) (Cs:=pvs m ps) (i:=((p.1+1) % ps.length)) (C:=wC (fPV m (tn ps p.1))) kJ (qI hni) (fun v W hb h=>(yU hlw h (s.up hb))) iiz)<|oc (zJ (f:=fPV m (tn ps p.1)) 6 kJ (hz:=zO _ _))<|oc (jF zE zSg (fun u0 u1 u2 W hb (h0:(fPV m (at_ ps (pvx ps p.1))).p u0 W) (h1:(fPV m (at_ ps p.1)).p u1 W) (h2:(fPV m (tn ps p.1)).p u2 W)=>zGh (m:=m) h0 h1 h2 oQ hm0))<|oc (zAb (fun u W (hu:u= .int .i64 (zEV ps p.1))=>zK1 hu))<|zD) fun Q' hQ a w7 s hr=> ?_
   refine zKV ([wF [.int .i64 (zEV ps p.1)]]) s0 (s.keepK [(14,.u (wB (p.2))),(11,.u (uB (ltz p.1 ((pvs m ps).length)))),(0,.u (wB l)),(4,.u (uI (p.1:Int)))] (fmz ⟨.head _,fmz ⟨mz1,fmz ⟨mz2,fmz ⟨mz3,fnz⟩⟩⟩⟩)) hb0 hI.2 rfl kJ kJ kJ (s.fct (.tmp 14)) (hr (_,_) (.tail _ (.tail _ (.tail _ (.tail _ (.tail _ (.tail _ (.tail _ (.tail _ (.tail _ (.tail _ zJs))))))))))) (zP5 _) (by simp [zJ0];omega) (fun q hq=>by cases hq) fun v' a w hI' s=> ?_
   have s1:=s
   replace s:=s.reb rfl [(40,.u (wB v')),(14,.u (wB (p.2))),(11,.u (uB (ltz p.1 ((pvs m ps).length)))),(0,.u (wB l)),(4,.u (uI (p.1:Int)))] (fmz ⟨.inl (.head _),fmz ⟨.inl mz1,fmz ⟨.inl mz2,fmz ⟨.inl mz3,fmz ⟨.inl mz4,fnz⟩⟩⟩⟩⟩)
   refine yP (wB v') rfl s kJ iiz fun a w s=> ?_
   refine zA rfl (hQ _ _ ?_)
   refine zX 2 ((12,.Z (uI (p.1:Int)))::(13,.u (uI ((p.1+1:Nat):Int))):: []) s kJ
    (oc zC<|oc (yM .i64 (p.1:Int) 1 ((p.1+1:Nat):Int) iiz iiz (wrap64 _ _ oQ oQ))<|zD) fun a w8 s=> ?_
   replace s:=s.drop [4]
   refine yP (uI ((p.1+1:Nat):Int)) rfl s kJ iiz fun a w s=> ?_
   refine zA rfl ?_
   have hbw:=s.below
   replace s:=s1.back (s.keepK [(4,.u (uI ((p.1+1:Nat):Int))),(13,.u (uI ((p.1+1:Nat):Int))),(3,.u (wB v')),(40,.u (wB v')),(14,.u (wB (p.2))),(11,.u (uB (ltz p.1 ((pvs m ps).length)))),(0,.u (wB l))] (fmz ⟨.head _,fmz ⟨mz1,fmz ⟨mz2,fmz ⟨mz3,fmz ⟨mz4,fmz ⟨mz5,fmz ⟨mz6,fnz⟩⟩⟩⟩⟩⟩⟩)) rfl
   exact ⟨(p.1+1,v'),(by show ps.length - (p.1+1)<ps.length - p.1;omega),⟨hk,Nat.le_trans hI'.1 hbw.size,by show zAE _ _ _ _ _ (zns (zC2 ps (p.1+1)));rw [zH7];exact hI'.2.below hbw⟩,s.keepK _ (fmz ⟨mz6,fmz ⟨mz2,fmz ⟨.head _,fnz⟩⟩⟩)⟩
  ·have hk:p.1=ps.length:=by have h7:=zY3 e;have h8:=hI.1;simp at h7;omega
   refine zZc ?_
   refine zYO ?_
   refine zB 2 ((41,.Z (wB (p.2)))::(2,.u (wB (p.2))):: []) hmix s kJ
    (oc zC<|oc zG<|zD) fun a w9 s=> ?_
   refine zA rfl ?_
   refine zYP ?_
   exact StS.resN s s0.below rfl (by rw [s.val (.head _)];have:=((hI.2.2.below s.below).mono hb0).row;rw [hk] at this;rw [show qL ps=zC2 ps ps.length from if_neg oQ];exact this)
theorem zLC {l:Wu} (hl:(wD 6 (pvs 80 ps)).p l W) (hn:ps.length<=1000000) (hpair: ∀i j,i<ps.length->j<ps.length->i≠j->zEt (at_ ps i) (at_ ps j)):Calls prog 7 #[l] W (Ret W (fB (zC1 ps)).tS):=by
 refine z7 [(wB l).tS] func7 rfl kJ ⟨rfl,trivial⟩ fun a s=> ?_
 replace s:=s.renew [(0,.u (wB l))] (fmz ⟨.inr ⟨_,rfl,.head _⟩,fnz⟩)
 refine zYO ?_
 refine zB 1 ((2,.u (uB false)):: []) hmix s kJ
  (oc zG<|zD) fun a w1 s=> ?_
 refine zA rfl ?_
 refine zYO ?_
 refine qS 2 ((5,.Z (wB l))::(6,.s (wD 1 (zns (qL ps)))):: []) hmix s kJ
  (oc zC<|oc (zH zE zVK (fun u0 W hb (h0:u0=l)=>zLm (m:=80) (yU hl h0 (s.up hb)) dC dC hn))<|zD) fun a w2 s hr=> ?_
 obtain ⟨v6,e6⟩: ∃v,a.tmps.getD 6 undef=v:=⟨_,rfl⟩
 have hv6:(wD 1 (zns (qL ps))).p v6 w2:=e6▸(hr (_,_) mz1)
 replace s:=s.learn 6 v6 e6
 have hb0:=s.below
 have hl':=(wD 6 (pvs 80 ps)).st _ _ _ hl hb0
 replace s:=s.reb rfl [(6,.u (wB v6)),(2,.u (uB false)),(0,.u (wB l))] (fmz ⟨.inl (.head _),fmz ⟨.inl mz1,fmz ⟨.inl mz2,fnz⟩⟩⟩)
 refine yP (wB v6) rfl s kJ iiz fun a w s=> ?_
 refine zA rfl ?_
 refine zYO ?_
 refine zYO ?_
 refine zB 1 ((4,.u (uI 0)):: []) hmix s kJ
  (oc zG<|zD) fun a w3 s=> ?_
 refine zA rfl ?_
 refine zYZ ?_
 refine zAZ (fun k=>k<=(qL ps).length/\ ∀j,j<k->((qL ps).getD j 0 !=1)=false) (fun k=> [(3,.u (wB v6)),(0,.u (wB l)),(4,.u (uI ((k:Nat):Int)))]) (fun k=>(qL ps).length - k) (0:Nat) (⟨zY5 _,fun j hj=>absurd hj (zZj _)⟩) (s.keepK _ (fmz ⟨mz1,fmz ⟨mz4,fmz ⟨.head _,fnz⟩⟩⟩)) fun k a w hx s=> ?_
 have hlz:(zns (qL ps)).length=(qL ps).length:=by simp
 have htl:=zJZ ps
 refine zYO ?_
 refine zYO ?_
 refine zB 4 ((7,.Z (uI (k:Int)))::(8,.Z (wB v6))::(9,.Z (uI ((zns (qL ps)).length:Int)))::(10,.u (uB (ltz k ((zns (qL ps)).length)))):: []) hmix s kJ
  (oc zC<|oc zC<|oc (yW (z:=1) (Cs:=zns (qL ps)) kJ (fun v W hb h=>(yU hv6 h (s.up hb))) (fun _=>rfl))<|oc (zR .i64 (k:Int) ((zns (qL ps)).length:Int) (ltz k ((zns (qL ps)).length)) iiz iiz rfl rfl)<|zD) fun a w4 s=> ?_
 refine zA rfl ?_
 refine StS.cond s (ltz k ((zns (qL ps)).length)) iiz (fun e=> ?_) (fun e=> ?_)
 ·have hk:k<(qL ps).length:=by have:=zY1 e;simp at this;omega
  refine zYQ ?_
  refine zYO ?_
  refine zYZ ?_
  refine zYO ?_
  refine zB 5 ((13,.Z (wB v6))::(14,.Z (uI (k:Int)))::(15,.s (wE (wF [.int .i64 ((qL ps).getD k 0)]).cf))::(16,.Z (uI ((qL ps).getD k 0)))::(17,.u (uB (((qL ps).getD k 0) !=1))):: []) hmix s kJ
   (oc zC<|oc zC<|oc (yL (z:=1) (Cs:=zns (qL ps)) (i:=k) (C:=wF [.int .i64 ((qL ps).getD k 0)]) kJ (zQN hk) (fun v W hb h=>(yU hv6 h (s.up hb))) iiz)<|oc (zAg (C:=(wF [.int .i64 ((qL ps).getD k 0)]).cf) kJ iiz (zQO _))<|oc (zR .i64 ((qL ps).getD k 0) 1 (((qL ps).getD k 0) !=1) iiz iiz rfl rfl)<|zD) fun a w5 s=> ?_
  refine zA rfl ?_
  refine StS.cond s (((qL ps).getD k 0) !=1) iiz (fun e=> ?_) (fun e=> ?_)
  ·refine zYO ?_
   refine zB 1 ((2,.u (uB false)):: []) hmix s kJ
    (oc zG<|zD) fun a w6 s=> ?_
   refine zA rfl ?_
   refine zYP ?_
   exact vG s hb0 (t:=2) rfl (fun v W h=>by rw [zPq hk e];exact h)
  ·refine zYQ ?_
   refine zX 2 ((11,.Z (uI (k:Int)))::(12,.u (uI ((k+1:Nat):Int))):: []) s kJ
    (oc zC<|oc (yM .i64 (k:Int) 1 ((k+1:Nat):Int) iiz iiz (wrap64 _ _ oQ oQ))<|zD) fun a w7 s=> ?_
   replace s:=s.drop [4]
   refine yP (uI ((k+1:Nat):Int)) rfl s kJ iiz fun a w s=> ?_
   refine zA rfl ?_
   exact ⟨k+1,⟨hk,fun j hj=>by rcases zZa (zZf hj) with h|h;exact hx.2 j h;rw [h];exact e⟩,(by show (qL ps).length - (k+1)<(qL ps).length - k;omega),s.keepK _ (fmz ⟨mz4,fmz ⟨mz5,fmz ⟨.head _,fnz⟩⟩⟩)⟩
 ·have hk:k=(qL ps).length:=by have h7:=zY3 e;have h8:=hx.1;simp at h7;omega
  refine zZc ?_
  refine zYO ?_
  refine zB 3 ((18,.Z (wB l))::(19,.Z (uB (zD5 ps)))::(2,.u (uB (zD5 ps))):: []) hmix s kJ
   (oc zC<|oc (zH zE zVJ (fun u0 W hb (h0:u0=l)=>zIj (ps:=ps) (yU hl' h0 (s.up hb)) hn hpair))<|oc zG<|zD) fun a w8 s=> ?_
  refine zA rfl ?_
  refine zYP ?_
  exact vG s hb0 (t:=2) rfl (fun v W h=>by rw [zM4 (fun j hj=>hx.2 j oQ)];exact h)
def zCk (a b r:Rat):Bool:=zEx a b r||zEx b a r
theorem zM3 (a b r:Rat):zSm a b r=zCk a b r:=by
 rw [Bool.eq_iff_iff]
 unfold zCk
 rw [Bool.or_eq_true,zJS,zJS]
 exact ⟨zM2,zIJ⟩
theorem zTo (a b p:V2):onB a b p=(((yQ a b p==0)&&zCk a.1 b.1 p.1)&&zCk a.2 b.2 p.2):=by
 unfold onB
 rw [zM3,zM3]
theorem zQw (a b p:V2):(zCF a b p||zCF b a p)=zC8 a b p:=by
 have key: ∀x y:V2,zCF x y p=true->x.2<y.2:=fun x y h=>by
  unfold zCF at h
  rw [zY0,zY0] at h
  have h1:=zY1 h.1.1
  have h2:=qlt.1 (zY1 h.1.2)
  rcases zDd x.2 p.2 with e|e|e
  ·have:=qlt.1 (show qsg x.2 p.2<0 by omega);grind
  ·have:=zC5.1 e;grind
  ·omega
 by_cases c:qsg a.2 b.2>0
 ·rw [zPo (zZe c)]
  cases h:zCF a b p with
  |false=>rfl
  |true=>
   have h1:=key _ _ h
   have h2:=qgt.1 c
   exact absurd h1 (Rat.not_lt.2 (zYT h2))
 ·rw [zPp (zZn c)]
  cases h:zCF b a p with
  |false=>rw [Bool.or_false]
  |true=>
   exact absurd (qgt.2 (key _ _ h)) c
theorem zMa (h:2<=ps.length):nE ps=ps.length:=if_pos h
theorem zLo (h1:RVp m a_ u W) (h2:RVp m b_ v W) (h3:RVp m r x W) (hm:m<=246) (hm0:0<m):Calls prog 110 #[u,v,x] W (Ret W (fB (zEx a_ b_ r)).tS):=by
 refine z7 [(fRV m a_).tS,(fRV m b_).tS,(fRV m r).tS] func110 rfl kJ ⟨h1,h2,h3,trivial⟩ fun a s=> ?_
 refine zYO ?_
 refine zB 0 [] hmix s kJ
  zD fun a w1 s=> ?_
 refine yG (wC (fRV m a_)) rfl s kJ (fun v W h=>jW h) fun b3 a w s=> ?_
 refine yG (wC (fRV m b_)) rfl s kJ (fun v W h=>jW h) fun b4 a w s=> ?_
 refine yG (wC (fRV m r)) rfl s kJ (fun v W h=>jW h) fun b5 a w s=> ?_
 refine yP (uB false) rfl s kJ iiz fun a w s=> ?_
 refine zA rfl ?_
 refine zYO ?_
 replace s:=s.drop [6]
 refine zB 11 ((7,.Z (fRV m a_))::(8,.Z (fRV m r))::(9,.Z (uI (qsg a_ r)))::(10,.Z (uB (decide (qsg a_ r<=0))))::(11,.Z (uB (decide (qsg a_ r<=0))))::(12,.s (SF.imp ((decide (qsg a_ r<=0))=true) ((fRV m r).tS)))::(13,.s (SF.imp ((decide (qsg a_ r<=0))=true) ((fRV m b_).tS)))::(14,.s (SF.imp ((decide (qsg a_ r<=0))=true) ((uI (qsg r b_)).tS)))::(15,.s (SF.imp ((decide (qsg a_ r<=0))=true) ((uB (decide (qsg r b_<=0))).tS)))::(16,.Z (uB ((decide (qsg a_ r<=0))&&(decide (qsg r b_<=0)))))::(6,.u (uB ((decide (qsg a_ r<=0))&&(decide (qsg r b_<=0))))):: []) hmix s kJ
  (oc (zJ (f:=fRV m a_) 3 kJ (hz:=qM _ _))<|oc (zJ (f:=fRV m r) 3 kJ (hz:=qM _ _))<|oc (zI zE zIH (fun u0 u1 W hb (h0:RVp m a_ u0 W) (h1:RVp m r u1 W)=>zDc (m:=m) h0 h1 oQ hm0))<|oc (zR .i64 (qsg a_ r) 0 (decide (qsg a_ r<=0)) iiz iiz rfl rfl)<|oc zC<|oc (zF 11 (decide (qsg a_ r<=0)) kJ iiz (fun e=>zQ [] ((fRV m r).tS) fnz fS kJ (zJ (f:=fRV m r) 3 kJ (hz:=qM _ _))) fQ)<|oc (zF 11 (decide (qsg a_ r<=0)) kJ iiz (fun e=>zQ [] ((fRV m b_).tS) fnz fS kJ (zJ (f:=fRV m b_) 3 kJ (hz:=qM _ _))) fQ)<|oc (zF 11 (decide (qsg a_ r<=0)) kJ iiz (fun e=>zQ [(12,(fRV m r).tS),(13,(fRV m b_).tS)] ((uI (qsg r b_)).tS) (fmz ⟨fun v W h=>zK (c:=(decide (qsg a_ r<=0))=true) (f:=(fRV m r).tS) e h,fmz ⟨fun v W h=>zK (c:=(decide (qsg a_ r<=0))=true) (f:=(fRV m b_).tS) e h,fnz⟩⟩) fS kJ (zI zE zIH (fun u0 u1 W hb (h0:RVp m r u0 W) (h1:RVp m b_ u1 W)=>zDc (m:=m) h0 h1 oQ hm0))) fQ)<|oc (zF 11 (decide (qsg a_ r<=0)) kJ iiz (fun e=>zQ [(14,(uI (qsg r b_)).tS)] ((uB (decide (qsg r b_<=0))).tS) (fmz ⟨fun v W h=>zK (c:=(decide (qsg a_ r<=0))=true) (f:=(uI (qsg r b_)).tS) e h,fnz⟩) fS kJ (zR .i64 (qsg r b_) 0 (decide (qsg r b_<=0)) iiz iiz rfl rfl)) fQ)<|oc (yJ (decide (qsg a_ r<=0)) iiz (fun e v W h=>jU (zK e h) e) (fun e v W h=>jD h e))<|oc zG<|zD) fun a w2 s=> ?_
 refine zA rfl ?_
 refine zYP ?_
 exact wG s (t:=6) rfl iiz
theorem zLn (h1:RVp m a_ u W) (h2:RVp m b_ v W) (h3:RVp m r x W) (hm:m<=246) (hm0:0<m):Calls prog 89 #[u,v,x] W (Ret W (fB (zCk a_ b_ r)).tS):=by
 refine z7 [(fRV m a_).tS,(fRV m b_).tS,(fRV m r).tS] func89 rfl kJ ⟨h1,h2,h3,trivial⟩ fun a s=> ?_
 refine zYO ?_
 refine zB 0 [] hmix s kJ
  zD fun a w1 s=> ?_
 refine yG (wC (fRV m a_)) rfl s kJ (fun v W h=>jW h) fun b3 a w s=> ?_
 refine yG (wC (fRV m b_)) rfl s kJ (fun v W h=>jW h) fun b4 a w s=> ?_
 refine yG (wC (fRV m r)) rfl s kJ (fun v W h=>jW h) fun b5 a w s=> ?_
 refine yP (uB false) rfl s kJ iiz fun a w s=> ?_
 refine zA rfl ?_
 refine zYO ?_
 replace s:=s.drop [6]
 refine zB 11 ((7,.Z (fRV m a_))::(8,.Z (fRV m b_))::(9,.Z (fRV m r))::(10,.Z (uB (zEx a_ b_ r)))::(11,.Z (uB (zEx a_ b_ r)))::(12,.s (SF.imp ((zEx a_ b_ r)=false) ((fRV m b_).tS)))::(13,.s (SF.imp ((zEx a_ b_ r)=false) ((fRV m a_).tS)))::(14,.s (SF.imp ((zEx a_ b_ r)=false) ((fRV m r).tS)))::(15,.s (SF.imp ((zEx a_ b_ r)=false) ((uB (zEx b_ a_ r)).tS)))::(16,.Z (uB ((zEx a_ b_ r)||(zEx b_ a_ r))))::(6,.u (uB ((zEx a_ b_ r)||(zEx b_ a_ r)))):: []) hmix s kJ
  (oc (zJ (f:=fRV m a_) 3 kJ (hz:=qM _ _))<|oc (zJ (f:=fRV m b_) 3 kJ (hz:=qM _ _))<|oc (zJ (f:=fRV m r) 3 kJ (hz:=qM _ _))<|oc (jF zE zQs (fun u0 u1 u2 W hb (h0:RVp m a_ u0 W) (h1:RVp m b_ u1 W) (h2:RVp m r u2 W)=>zLo (m:=m) h0 h1 h2 hm hm0))<|oc zC<|oc (zF 11 (zEx a_ b_ r) kJ iiz (fun e=>zQ [] ((fRV m b_).tS) fnz fS kJ (zJ (f:=fRV m b_) 3 kJ (hz:=qM _ _))) fQ)<|oc (zF 11 (zEx a_ b_ r) kJ iiz (fun e=>zQ [] ((fRV m a_).tS) fnz fS kJ (zJ (f:=fRV m a_) 3 kJ (hz:=qM _ _))) fQ)<|oc (zF 11 (zEx a_ b_ r) kJ iiz (fun e=>zQ [] ((fRV m r).tS) fnz fS kJ (zJ (f:=fRV m r) 3 kJ (hz:=qM _ _))) fQ)<|oc (zF 11 (zEx a_ b_ r) kJ iiz (fun e=>zQ [(12,(fRV m b_).tS),(13,(fRV m a_).tS),(14,(fRV m r).tS)] ((uB (zEx b_ a_ r)).tS) (fmz ⟨fun v W h=>zK (c:=(zEx a_ b_ r)=false) (f:=(fRV m b_).tS) e h,fmz ⟨fun v W h=>zK (c:=(zEx a_ b_ r)=false) (f:=(fRV m a_).tS) e h,fmz ⟨fun v W h=>zK (c:=(zEx a_ b_ r)=false) (f:=(fRV m r).tS) e h,fnz⟩⟩⟩) fS kJ (jF zE zQs (fun u0 u1 u2 W hb (h0:RVp m b_ u0 W) (h1:RVp m a_ u1 W) (h2:RVp m r u2 W)=>zLo (m:=m) h0 h1 h2 hm hm0))) fQ)<|oc (yJ (zEx a_ b_ r) iiz (fun e v W h=>zDf h e) (fun e v W h=>zB9 (zK e h) e))<|oc zG<|zD) fun a w2 s=> ?_
 refine zA rfl ?_
 refine zYP ?_
 exact wG s (t:=6) rfl iiz
theorem zS4 {r:V2} (h1:(fPV m p).p u W) (h2:(fPV m q).p v W) (h3:(fPV m r).p x W) (hm:m<=246) (hm0:0<m):Calls prog 63 #[u,v,x] W (Ret W (fB (onB p q r)).tS):=by
 refine z7 [(fPV m p).tS,(fPV m q).tS,(fPV m r).tS] func63 rfl kJ ⟨h1,h2,h3,trivial⟩ fun a s=> ?_
 refine zYO ?_
 refine zB 0 [] hmix s kJ
  zD fun a w1 s=> ?_
 refine yG (wC (fPV m p)) rfl s kJ (fun v W h=>yO h) fun b3 a w s=> ?_
 refine yG (wC (fPV m q)) rfl s kJ (fun v W h=>yO h) fun b4 a w s=> ?_
 refine yG (wC (fPV m r)) rfl s kJ (fun v W h=>yO h) fun b5 a w s=> ?_
 refine yP (uB false) rfl s kJ iiz fun a w s=> ?_
 refine zA rfl ?_
 refine zYO ?_
 replace s:=s.drop [6]
 refine zB 24 ((7,.Z (fPV m p))::(8,.Z (fPV m q))::(9,.Z (fPV m r))::(10,.Z (uI (yQ p q r)))::(11,.Z (uB (yQ p q r==0)))::(12,.Z (uB (yQ p q r==0)))::(13,.s (SF.imp ((yQ p q r==0)=true) (wE ((wC (fPV m p)).cf.at 0))))::(14,.s (SF.imp ((yQ p q r==0)=true) ((fRV m ((p).1)).tS)))::(15,.s (SF.imp ((yQ p q r==0)=true) (wE ((wC (fPV m q)).cf.at 0))))::(16,.s (SF.imp ((yQ p q r==0)=true) ((fRV m ((q).1)).tS)))::(17,.s (SF.imp ((yQ p q r==0)=true) (wE ((wC (fPV m r)).cf.at 0))))::(18,.s (SF.imp ((yQ p q r==0)=true) ((fRV m ((r).1)).tS)))::(19,.s (SF.imp ((yQ p q r==0)=true) ((uB (zCk (p).1 (q).1 (r).1)).tS)))::(20,.Z (uB ((yQ p q r==0)&&(zCk (p).1 (q).1 (r).1))))::(21,.Z (uB ((yQ p q r==0)&&(zCk (p).1 (q).1 (r).1))))::(22,.s (SF.imp (((yQ p q r==0)&&(zCk (p).1 (q).1 (r).1))=true) (wE ((wC (fPV m p)).cf.at 3))))::(23,.s (SF.imp (((yQ p q r==0)&&(zCk (p).1 (q).1 (r).1))=true) ((fRV m ((p).2)).tS)))::(24,.s (SF.imp (((yQ p q r==0)&&(zCk (p).1 (q).1 (r).1))=true) (wE ((wC (fPV m q)).cf.at 3))))::(25,.s (SF.imp (((yQ p q r==0)&&(zCk (p).1 (q).1 (r).1))=true) ((fRV m ((q).2)).tS)))::(26,.s (SF.imp (((yQ p q r==0)&&(zCk (p).1 (q).1 (r).1))=true) (wE ((wC (fPV m r)).cf.at 3))))::(27,.s (SF.imp (((yQ p q r==0)&&(zCk (p).1 (q).1 (r).1))=true) ((fRV m ((r).2)).tS)))::(28,.s (SF.imp (((yQ p q r==0)&&(zCk (p).1 (q).1 (r).1))=true) ((uB (zCk (p).2 (q).2 (r).2)).tS)))::(29,.Z (uB (((yQ p q r==0)&&(zCk (p).1 (q).1 (r).1))&&(zCk (p).2 (q).2 (r).2))))::(6,.u (uB (((yQ p q r==0)&&(zCk (p).1 (q).1 (r).1))&&(zCk (p).2 (q).2 (r).2)))):: []) hmix s kJ
  (oc (zJ (f:=fPV m p) 6 kJ (hz:=zO _ _))<|oc (zJ (f:=fPV m q) 6 kJ (hz:=zO _ _))<|oc (zJ (f:=fPV m r) 6 kJ (hz:=zO _ _))<|oc (jF zE zSg (fun u0 u1 u2 W hb (h0:(fPV m p).p u0 W) (h1:(fPV m q).p u1 W) (h2:(fPV m r).p u2 W)=>zGh (m:=m) h0 h1 h2 hm hm0))<|oc (zR .i64 (yQ p q r) 0 (yQ p q r==0) iiz iiz rfl rfl)<|oc zC<|oc (zF 12 (yQ p q r==0) kJ iiz (fun e=>zQ [] (wE ((wC (fPV m p)).cf.at 0)) fnz fS kJ (zL (C:=cg (fPV m p)) 0 kJ)) fQ)<|oc (zF 12 (yQ p q r==0) kJ iiz (fun e=>zQ [(13,wE ((wC (fPV m p)).cf.at 0))] ((fRV m ((p).1)).tS) (fmz ⟨fun v W h=>zK (c:=(yQ p q r==0)=true) (f:=wE ((wC (fPV m p)).cf.at 0)) e h,fnz⟩) fS kJ (zT (C:=cg (fPV m p)) (k:=0) 3 kJ (h:=zC6))) fQ)<|oc (zF 12 (yQ p q r==0) kJ iiz (fun e=>zQ [] (wE ((wC (fPV m q)).cf.at 0)) fnz fS kJ (zL (C:=cg (fPV m q)) 0 kJ)) fQ)<|oc (zF 12 (yQ p q r==0) kJ iiz (fun e=>zQ [(15,wE ((wC (fPV m q)).cf.at 0))] ((fRV m ((q).1)).tS) (fmz ⟨fun v W h=>zK (c:=(yQ p q r==0)=true) (f:=wE ((wC (fPV m q)).cf.at 0)) e h,fnz⟩) fS kJ (zT (C:=cg (fPV m q)) (k:=0) 3 kJ (h:=zC6))) fQ)<|oc (zF 12 (yQ p q r==0) kJ iiz (fun e=>zQ [] (wE ((wC (fPV m r)).cf.at 0)) fnz fS kJ (zL (C:=cg (fPV m r)) 0 kJ)) fQ)<|oc (zF 12 (yQ p q r==0) kJ iiz (fun e=>zQ [(17,wE ((wC (fPV m r)).cf.at 0))] ((fRV m ((r).1)).tS) (fmz ⟨fun v W h=>zK (c:=(yQ p q r==0)=true) (f:=wE ((wC (fPV m r)).cf.at 0)) e h,fnz⟩) fS kJ (zT (C:=cg (fPV m r)) (k:=0) 3 kJ (h:=zC6))) fQ)<|oc (zF 12 (yQ p q r==0) kJ iiz (fun e=>zQ [(14,(fRV m ((p).1)).tS),(16,(fRV m ((q).1)).tS),(18,(fRV m ((r).1)).tS)] ((uB (zCk (p).1 (q).1 (r).1)).tS) (fmz ⟨fun v W h=>zK (c:=(yQ p q r==0)=true) (f:=(fRV m ((p).1)).tS) e h,fmz ⟨fun v W h=>zK (c:=(yQ p q r==0)=true) (f:=(fRV m ((q).1)).tS) e h,fmz ⟨fun v W h=>zK (c:=(yQ p q r==0)=true) (f:=(fRV m ((r).1)).tS) e h,fnz⟩⟩⟩) fS kJ (jF zE zTO (fun u0 u1 u2 W hb (h0:RVp m ((p).1) u0 W) (h1:RVp m ((q).1) u1 W) (h2:RVp m ((r).1) u2 W)=>zLn (m:=m) h0 h1 h2 hm hm0))) fQ)<|oc (yJ (yQ p q r==0) iiz (fun e v W h=>jU (zK e h) e) (fun e v W h=>jD h e))<|oc zC<|oc (zF 21 ((yQ p q r==0)&&(zCk (p).1 (q).1 (r).1)) kJ iiz (fun e=>zQ [] (wE ((wC (fPV m p)).cf.at 3)) fnz fS kJ (zL (C:=cg (fPV m p)) 3 kJ)) fQ)<|oc (zF 21 ((yQ p q r==0)&&(zCk (p).1 (q).1 (r).1)) kJ iiz (fun e=>zQ [(22,wE ((wC (fPV m p)).cf.at 3))] ((fRV m ((p).2)).tS) (fmz ⟨fun v W h=>zK (c:=((yQ p q r==0)&&(zCk (p).1 (q).1 (r).1))=true) (f:=wE ((wC (fPV m p)).cf.at 3)) e h,fnz⟩) fS kJ (zT (C:=cg (fPV m p)) (k:=3) 3 kJ (h:=zCj))) fQ)<|oc (zF 21 ((yQ p q r==0)&&(zCk (p).1 (q).1 (r).1)) kJ iiz (fun e=>zQ [] (wE ((wC (fPV m q)).cf.at 3)) fnz fS kJ (zL (C:=cg (fPV m q)) 3 kJ)) fQ)<|oc (zF 21 ((yQ p q r==0)&&(zCk (p).1 (q).1 (r).1)) kJ iiz (fun e=>zQ [(24,wE ((wC (fPV m q)).cf.at 3))] ((fRV m ((q).2)).tS) (fmz ⟨fun v W h=>zK (c:=((yQ p q r==0)&&(zCk (p).1 (q).1 (r).1))=true) (f:=wE ((wC (fPV m q)).cf.at 3)) e h,fnz⟩) fS kJ (zT (C:=cg (fPV m q)) (k:=3) 3 kJ (h:=zCj))) fQ)<|oc (zF 21 ((yQ p q r==0)&&(zCk (p).1 (q).1 (r).1)) kJ iiz (fun e=>zQ [] (wE ((wC (fPV m r)).cf.at 3)) fnz fS kJ (zL (C:=cg (fPV m r)) 3 kJ)) fQ)<|oc (zF 21 ((yQ p q r==0)&&(zCk (p).1 (q).1 (r).1)) kJ iiz (fun e=>zQ [(26,wE ((wC (fPV m r)).cf.at 3))] ((fRV m ((r).2)).tS) (fmz ⟨fun v W h=>zK (c:=((yQ p q r==0)&&(zCk (p).1 (q).1 (r).1))=true) (f:=wE ((wC (fPV m r)).cf.at 3)) e h,fnz⟩) fS kJ (zT (C:=cg (fPV m r)) (k:=3) 3 kJ (h:=zCj))) fQ)<|oc (zF 21 ((yQ p q r==0)&&(zCk (p).1 (q).1 (r).1)) kJ iiz (fun e=>zQ [(23,(fRV m ((p).2)).tS),(25,(fRV m ((q).2)).tS),(27,(fRV m ((r).2)).tS)] ((uB (zCk (p).2 (q).2 (r).2)).tS) (fmz ⟨fun v W h=>zK (c:=((yQ p q r==0)&&(zCk (p).1 (q).1 (r).1))=true) (f:=(fRV m ((p).2)).tS) e h,fmz ⟨fun v W h=>zK (c:=((yQ p q r==0)&&(zCk (p).1 (q).1 (r).1))=true) (f:=(fRV m ((q).2)).tS) e h,fmz ⟨fun v W h=>zK (c:=((yQ p q r==0)&&(zCk (p).1 (q).1 (r).1))=true) (f:=(fRV m ((r).2)).tS) e h,fnz⟩⟩⟩) fS kJ (jF zE zTO (fun u0 u1 u2 W hb (h0:RVp m ((p).2) u0 W) (h1:RVp m ((q).2) u1 W) (h2:RVp m ((r).2) u2 W)=>zLn (m:=m) h0 h1 h2 hm hm0))) fQ)<|oc (yJ ((yQ p q r==0)&&(zCk (p).1 (q).1 (r).1)) iiz (fun e v W h=>jU (zK e h) e) (fun e v W h=>jD h e))<|oc zG<|zD) fun a w2 s=> ?_
 refine zA rfl ?_
 refine zYP ?_
 exact wG s (t:=6) rfl (fun v W h=>by rw [zTo];exact h)
theorem zJe {r:V2} (h1:(fPV m p).p u W) (h2:(fPV m q).p v W) (h3:(fPV m r).p x W) (hm:m<=246) (hm0:0<m):Calls prog 64 #[u,v,x] W (Ret W (fB (zCF q r p)).tS):=by
 refine z7 [(fPV m p).tS,(fPV m q).tS,(fPV m r).tS] func64 rfl kJ ⟨h1,h2,h3,trivial⟩ fun a s=> ?_
 refine zYO ?_
 refine zB 0 [] hmix s kJ
  zD fun a w1 s=> ?_
 refine yG (wC (fPV m p)) rfl s kJ (fun v W h=>yO h) fun b3 a w s=> ?_
 refine yG (wC (fPV m q)) rfl s kJ (fun v W h=>yO h) fun b4 a w s=> ?_
 refine yG (wC (fPV m r)) rfl s kJ (fun v W h=>yO h) fun b5 a w s=> ?_
 refine yP (uB false) rfl s kJ iiz fun a w s=> ?_
 refine zA rfl ?_
 refine zYO ?_
 replace s:=s.drop [6]
 refine zB 22 ((7,.X (fPV m q) 3)::(8,.Z (fRV m ((q).2)))::(9,.X (fPV m p) 3)::(10,.Z (fRV m ((p).2)))::(11,.Z (uI (qsg (q).2 (p).2)))::(12,.Z (uB (decide (qsg (q).2 (p).2<=0))))::(13,.Z (uB (decide (qsg (q).2 (p).2<=0))))::(14,.s (SF.imp ((decide (qsg (q).2 (p).2<=0))=true) (wE ((wC (fPV m p)).cf.at 3))))::(15,.s (SF.imp ((decide (qsg (q).2 (p).2<=0))=true) ((fRV m ((p).2)).tS)))::(16,.s (SF.imp ((decide (qsg (q).2 (p).2<=0))=true) (wE ((wC (fPV m r)).cf.at 3))))::(17,.s (SF.imp ((decide (qsg (q).2 (p).2<=0))=true) ((fRV m ((r).2)).tS)))::(18,.s (SF.imp ((decide (qsg (q).2 (p).2<=0))=true) ((uI (qsg (p).2 (r).2)).tS)))::(19,.s (SF.imp ((decide (qsg (q).2 (p).2<=0))=true) ((uB (decide (qsg (p).2 (r).2<0))).tS)))::(20,.Z (uB ((decide (qsg (q).2 (p).2<=0))&&(decide (qsg (p).2 (r).2<0)))))::(21,.Z (uB ((decide (qsg (q).2 (p).2<=0))&&(decide (qsg (p).2 (r).2<0)))))::(22,.s (SF.imp (((decide (qsg (q).2 (p).2<=0))&&(decide (qsg (p).2 (r).2<0)))=true) ((fPV m q).tS)))::(23,.s (SF.imp (((decide (qsg (q).2 (p).2<=0))&&(decide (qsg (p).2 (r).2<0)))=true) ((fPV m r).tS)))::(24,.s (SF.imp (((decide (qsg (q).2 (p).2<=0))&&(decide (qsg (p).2 (r).2<0)))=true) ((fPV m p).tS)))::(25,.s (SF.imp (((decide (qsg (q).2 (p).2<=0))&&(decide (qsg (p).2 (r).2<0)))=true) ((uI (yQ q r p)).tS)))::(26,.s (SF.imp (((decide (qsg (q).2 (p).2<=0))&&(decide (qsg (p).2 (r).2<0)))=true) ((uB (yQ q r p==1)).tS)))::(27,.Z (uB (((decide (qsg (q).2 (p).2<=0))&&(decide (qsg (p).2 (r).2<0)))&&(yQ q r p==1))))::(6,.u (uB (((decide (qsg (q).2 (p).2<=0))&&(decide (qsg (p).2 (r).2<0)))&&(yQ q r p==1)))):: []) hmix s kJ
  (oc (zL (C:=cg (fPV m q)) 3 kJ)<|oc (zT (C:=cg (fPV m q)) (k:=3) 3 kJ (h:=zCj))<|oc (zL (C:=cg (fPV m p)) 3 kJ)<|oc (zT (C:=cg (fPV m p)) (k:=3) 3 kJ (h:=zCj))<|oc (zI zE zIH (fun u0 u1 W hb (h0:RVp m ((q).2) u0 W) (h1:RVp m ((p).2) u1 W)=>zDc (m:=m) h0 h1 oQ hm0))<|oc (zR .i64 (qsg (q).2 (p).2) 0 (decide (qsg (q).2 (p).2<=0)) iiz iiz rfl rfl)<|oc zC<|oc (zF 13 (decide (qsg (q).2 (p).2<=0)) kJ iiz (fun e=>zQ [] (wE ((wC (fPV m p)).cf.at 3)) fnz fS kJ (zL (C:=cg (fPV m p)) 3 kJ)) fQ)<|oc (zF 13 (decide (qsg (q).2 (p).2<=0)) kJ iiz (fun e=>zQ [(14,wE ((wC (fPV m p)).cf.at 3))] ((fRV m ((p).2)).tS) (fmz ⟨fun v W h=>zK (c:=(decide (qsg (q).2 (p).2<=0))=true) (f:=wE ((wC (fPV m p)).cf.at 3)) e h,fnz⟩) fS kJ (zT (C:=cg (fPV m p)) (k:=3) 3 kJ (h:=zCj))) fQ)<|oc (zF 13 (decide (qsg (q).2 (p).2<=0)) kJ iiz (fun e=>zQ [] (wE ((wC (fPV m r)).cf.at 3)) fnz fS kJ (zL (C:=cg (fPV m r)) 3 kJ)) fQ)<|oc (zF 13 (decide (qsg (q).2 (p).2<=0)) kJ iiz (fun e=>zQ [(16,wE ((wC (fPV m r)).cf.at 3))] ((fRV m ((r).2)).tS) (fmz ⟨fun v W h=>zK (c:=(decide (qsg (q).2 (p).2<=0))=true) (f:=wE ((wC (fPV m r)).cf.at 3)) e h,fnz⟩) fS kJ (zT (C:=cg (fPV m r)) (k:=3) 3 kJ (h:=zCj))) fQ)<|oc (zF 13 (decide (qsg (q).2 (p).2<=0)) kJ iiz (fun e=>zQ [(15,(fRV m ((p).2)).tS),(17,(fRV m ((r).2)).tS)] ((uI (qsg (p).2 (r).2)).tS) (fmz ⟨fun v W h=>zK (c:=(decide (qsg (q).2 (p).2<=0))=true) (f:=(fRV m ((p).2)).tS) e h,fmz ⟨fun v W h=>zK (c:=(decide (qsg (q).2 (p).2<=0))=true) (f:=(fRV m ((r).2)).tS) e h,fnz⟩⟩) fS kJ (zI zE zIH (fun u0 u1 W hb (h0:RVp m ((p).2) u0 W) (h1:RVp m ((r).2) u1 W)=>zDc (m:=m) h0 h1 oQ hm0))) fQ)<|oc (zF 13 (decide (qsg (q).2 (p).2<=0)) kJ iiz (fun e=>zQ [(18,(uI (qsg (p).2 (r).2)).tS)] ((uB (decide (qsg (p).2 (r).2<0))).tS) (fmz ⟨fun v W h=>zK (c:=(decide (qsg (q).2 (p).2<=0))=true) (f:=(uI (qsg (p).2 (r).2)).tS) e h,fnz⟩) fS kJ (zR .i64 (qsg (p).2 (r).2) 0 (decide (qsg (p).2 (r).2<0)) iiz iiz rfl rfl)) fQ)<|oc (yJ (decide (qsg (q).2 (p).2<=0)) iiz (fun e v W h=>jU (zK e h) e) (fun e v W h=>jD h e))<|oc zC<|oc (zF 21 ((decide (qsg (q).2 (p).2<=0))&&(decide (qsg (p).2 (r).2<0))) kJ iiz (fun e=>zQ [] ((fPV m q).tS) fnz fS kJ (zJ (f:=fPV m q) 6 kJ (hz:=zO _ _))) fQ)<|oc (zF 21 ((decide (qsg (q).2 (p).2<=0))&&(decide (qsg (p).2 (r).2<0))) kJ iiz (fun e=>zQ [] ((fPV m r).tS) fnz fS kJ (zJ (f:=fPV m r) 6 kJ (hz:=zO _ _))) fQ)<|oc (zF 21 ((decide (qsg (q).2 (p).2<=0))&&(decide (qsg (p).2 (r).2<0))) kJ iiz (fun e=>zQ [] ((fPV m p).tS) fnz fS kJ (zJ (f:=fPV m p) 6 kJ (hz:=zO _ _))) fQ)<|oc (zF 21 ((decide (qsg (q).2 (p).2<=0))&&(decide (qsg (p).2 (r).2<0))) kJ iiz (fun e=>zQ [(22,(fPV m q).tS),(23,(fPV m r).tS),(24,(fPV m p).tS)] ((uI (yQ q r p)).tS) (fmz ⟨fun v W h=>zK (c:=((decide (qsg (q).2 (p).2<=0))&&(decide (qsg (p).2 (r).2<0)))=true) (f:=(fPV m q).tS) e h,fmz ⟨fun v W h=>zK (c:=((decide (qsg (q).2 (p).2<=0))&&(decide (qsg (p).2 (r).2<0)))=true) (f:=(fPV m r).tS) e h,fmz ⟨fun v W h=>zK (c:=((decide (qsg (q).2 (p).2<=0))&&(decide (qsg (p).2 (r).2<0)))=true) (f:=(fPV m p).tS) e h,fnz⟩⟩⟩) fS kJ (jF zE zSg (fun u0 u1 u2 W hb (h0:(fPV m q).p u0 W) (h1:(fPV m r).p u1 W) (h2:(fPV m p).p u2 W)=>zGh (m:=m) h0 h1 h2 hm hm0))) fQ)<|oc (zF 21 ((decide (qsg (q).2 (p).2<=0))&&(decide (qsg (p).2 (r).2<0))) kJ iiz (fun e=>zQ [(25,(uI (yQ q r p)).tS)] ((uB (yQ q r p==1)).tS) (fmz ⟨fun v W h=>zK (c:=((decide (qsg (q).2 (p).2<=0))&&(decide (qsg (p).2 (r).2<0)))=true) (f:=(uI (yQ q r p)).tS) e h,fnz⟩) fS kJ (zR .i64 (yQ q r p) 1 (yQ q r p==1) iiz iiz rfl rfl)) fQ)<|oc (yJ ((decide (qsg (q).2 (p).2<=0))&&(decide (qsg (p).2 (r).2<0))) iiz (fun e v W h=>jU (zK e h) e) (fun e v W h=>jD h e))<|oc zG<|zD) fun a w2 s=> ?_
 refine zA rfl ?_
 refine zYP ?_
 exact wG s (t:=6) rfl iiz
theorem zRz {l:Wu} (h1:(fPV m p).p u W) (hl:(wD 6 (pvs m ps)).p l W) (hm:m<=246) (hm0:0<m) (hn:ps.length<=1000000) (h2:2<=ps.length):Calls prog 33 #[u,l] W (Ret W (fI (onI ps p)).tS):=by
 refine z7 [(fPV m p).tS,(wB l).tS] func33 rfl kJ ⟨h1,rfl,trivial⟩ fun a s=> ?_
 replace s:=s.renew [(0,.u (fPV m p)),(1,.u (wB l))] (fmz ⟨.inr ⟨_,rfl,.head _⟩,fmz ⟨.inr ⟨_,rfl,mz1⟩,fnz⟩⟩)
 refine zYO ?_
 refine zB 0 [] hmix s kJ
  zD fun a w1 s=> ?_
 refine yG (wC (fPV m p)) rfl s kJ (fun v W h=>yO h) fun b2 a w s=> ?_
 refine yP (uI 0) rfl s kJ iiz fun a w s=> ?_
 refine zA rfl ?_
 refine zYO ?_
 refine zYO ?_
 refine zB 1 ((5,.u (uI 0)):: []) hmix s kJ
  (oc zG<|zD) fun a w2 s=> ?_
 refine zA rfl ?_
 refine zYZ ?_
 refine zAZ (fun k=>k<=ps.length/\zRP (onK ps p) k) (fun k=> [(1,.u (wB l)),(5,.u (uI ((k:Nat):Int)))]) (fun k=>ps.length - k) (0:Nat) (⟨zY5 _,fun j hj=>absurd hj (zZj _)⟩) (s.keepK _ (fmz ⟨mz3,fmz ⟨.head _,fnz⟩⟩)) fun k a w hx s=> ?_
 have hlz:(pvs m ps).length=ps.length:=by simp
 refine zYO ?_
 refine zYO ?_
 refine zB 4 ((9,.Z (uI (k:Int)))::(10,.Z (wB l))::(11,.Z (uI ((pvs m ps).length:Int)))::(12,.u (uB (ltz k ((pvs m ps).length)))):: []) hmix s kJ
  (oc zC<|oc zC<|oc (yW (z:=6) (Cs:=pvs m ps) kJ (fun v W hb h=>(yU hl h (s.up hb))) (fun _=>rfl))<|oc (zR .i64 (k:Int) ((pvs m ps).length:Int) (ltz k ((pvs m ps).length)) iiz iiz rfl rfl)<|zD) fun a w3 s=> ?_
 refine zA rfl ?_
 refine StS.cond s (ltz k ((pvs m ps).length)) iiz (fun e=> ?_) (fun e=> ?_)
 ·have hk:k<ps.length:=by have h7:=zY1 e;rw [hlz] at h7;omega
  refine zYQ ?_
  refine zYO ?_
  refine zYZ ?_
  refine zYO ?_
  refine zB 7 ((16,.Z (wB l))::(17,.Z (uI (k:Int)))::(18,.Z (zDU (fPV m (at_ ps k)) (fPV m (tn ps k)) (uB true)))::(15,.Z (zDU (fPV m (at_ ps k)) (fPV m (tn ps k)) (uB true)))::(19,.u (fPV m (at_ ps k)))::(20,.u (fPV m (tn ps k)))::(21,.u (uB true)):: []) hmix s kJ
   (oc zC<|oc zC<|oc (zI zE zPd (fun u0 u1 W hb (h0:u0=l) (h1:u1= .int .i64 (k:Int))=>zDA (m:=m) (ps:=ps) (k:=k) (yU hl h0 (s.up hb)) h1 hk hn h2))<|oc zC<|oc (zCT (A:=(fPV m (at_ ps k)).tS) (B:=(fPV m (tn ps k)).tS) (C:=(uB true).tS) iiz)<|oc (zCS (A:=(fPV m (at_ ps k)).tS) (B:=(fPV m (tn ps k)).tS) (C:=(uB true).tS) iiz)<|oc (zCR (A:=(fPV m (at_ ps k)).tS) (B:=(fPV m (tn ps k)).tS) (C:=(uB true).tS) iiz)<|zD) fun a w4 s=> ?_
  refine zZ (CU.len 6) (cs:=zP6) kJ rfl s kJ (fun W=>rfl) rfl fun b6 a w s=> ?_
  refine zZ (CU.len 6) (cs:=zP6) kJ rfl s kJ (fun W=>rfl) rfl fun b7 a w s=> ?_
  refine zS (wC (fPV m (at_ ps k))) ((fPV m (at_ ps k)).tS) rfl s kJ rfl rfl rfl iiz iiz yV fun a w s=> ?_
  refine zS (wC (fPV m (tn ps k))) ((fPV m (tn ps k)).tS) rfl s kJ rfl rfl rfl iiz iiz yV fun a w s=> ?_
  refine yP (uB true) rfl s kJ iiz fun a w s=> ?_
  refine zA rfl ?_
  refine zYO ?_
  refine zB 7 ((22,.Z (uB true))::(23,.Z (uB true))::(24,.Z (fPV m (at_ ps k)))::(25,.Z (fPV m (tn ps k)))::(26,.Z (fPV m p))::(27,.Z (uB (onB (at_ ps k) (tn ps k) p)))::(28,.u (uB (onB (at_ ps k) (tn ps k) p))):: []) hmix s kJ
   (oc zC<|oc zC<|oc (zF 23 true kJ iiz (fun _=>zJ (f:=fPV m (at_ ps k)) 6 kJ (hz:=zO _ _)) arf)<|oc (zF 23 true kJ iiz (fun _=>zJ (f:=fPV m (tn ps k)) 6 kJ (hz:=zO _ _)) arf)<|oc (zF 23 true kJ iiz (fun _=>zJ (f:=fPV m p) 6 kJ (hz:=zO _ _)) arf)<|oc (zF 23 true kJ iiz (fun _=>jF zE zVu (fun u0 u1 u2 W hb (h0:(fPV m (at_ ps k)).p u0 W) (h1:(fPV m (tn ps k)).p u1 W) (h2:(fPV m p).p u2 W)=>zS4 (m:=m) h0 h1 h2 hm hm0)) arf)<|oc (yJ true iiz fR (fun e=>by cases e))<|zD) fun a w5 s=> ?_
  refine zA rfl ?_
  refine StS.cond s (onB (at_ ps k) (tn ps k) p) iiz (fun e=> ?_) (fun e=> ?_)
  ·refine zYO ?_
   refine zB 2 ((29,.Z (uI (k:Int)))::(4,.u (uI (k:Int))):: []) hmix s kJ
    (oc zC<|oc zG<|zD) fun a w6 s=> ?_
   refine zA rfl ?_
   refine zYP ?_
   exact wG s (t:=4) rfl (fun v W h=>by unfold onI;rw [zMa h2,zMM hk hx.2 e];exact h)
  ·refine zYQ ?_
   refine zX 2 ((13,.Z (uI (k:Int)))::(14,.u (uI ((k+1:Nat):Int))):: []) s kJ
    (oc zC<|oc (yM .i64 (k:Int) 1 ((k+1:Nat):Int) iiz iiz (wrap64 _ _ oQ oQ))<|zD) fun a w7 s=> ?_
   replace s:=s.drop [5]
   refine yP (uI ((k+1:Nat):Int)) rfl s kJ iiz fun a w s=> ?_
   refine zA rfl ?_
   replace s:=s.popB
   replace s:=s.popB
   exact ⟨k+1,⟨hk,fun j hj=>by rcases zZa (zZf hj) with h|h;exact hx.2 j h;rw [h];exact e⟩,(by show ps.length - (k+1)<ps.length - k;omega),s.keepK _ (fmz ⟨mz8,fmz ⟨.head _,fnz⟩⟩)⟩
 ·have hkN:k=ps.length:=by have h7:=zY3 e;have h8:=hx.1;rw [hlz] at h7;omega
  subst hkN
  refine zZc ?_
  refine zYO ?_
  refine zB 1 ((4,.u (uI (-1))):: []) hmix s kJ
   (oc zG<|zD) fun a w8 s=> ?_
  refine zA rfl ?_
  refine zYP ?_
  exact wG s (t:=4) rfl (fun v W h=>by unfold onI;rw [zMa h2,zIE hx.2];exact h)
theorem zHj {l:Wu} (h1:(fPV m p).p u W) (hl:(wD 6 (pvs m ps)).p l W) (hm:m<=246) (hm0:0<m) (hn:ps.length<=1000000) (h2:2<=ps.length):Calls prog 34 #[u,l] W (Ret W (fI ((crN ps p:Nat):Int)).tS):=by
 refine z7 [(fPV m p).tS,(wB l).tS] func34 rfl kJ ⟨h1,rfl,trivial⟩ fun a s=> ?_
 replace s:=s.renew [(0,.u (fPV m p)),(1,.u (wB l))] (fmz ⟨.inr ⟨_,rfl,.head _⟩,fmz ⟨.inr ⟨_,rfl,mz1⟩,fnz⟩⟩)
 refine zYO ?_
 refine zB 0 [] hmix s kJ
  zD fun a w1 s=> ?_
 refine yG (wC (fPV m p)) rfl s kJ (fun v W h=>yO h) fun b2 a w s=> ?_
 refine yP (uI 0) rfl s kJ iiz fun a w s=> ?_
 refine zA rfl ?_
 refine zYO ?_
 refine zB 1 ((5,.u (uI 0)):: []) hmix s kJ
  (oc zG<|zD) fun a w2 s=> ?_
 refine zA rfl ?_
 refine zYO ?_
 refine zYO ?_
 refine zB 1 ((6,.u (uI 0)):: []) hmix s kJ
  (oc zG<|zD) fun a w3 s=> ?_
 refine zA rfl ?_
 refine zYZ ?_
 refine zAZ (fun k=>k<=ps.length) (fun k=> [(1,.u (wB l)),(6,.u (uI ((k:Nat):Int))),(5,.u (uI ((zEw (crK ps p) k:Nat):Int)))]) (fun k=>ps.length - k) (0:Nat) (zY5 _) (s.keepK _ (fmz ⟨mz4,fmz ⟨.head _,fmz ⟨mz1,fnz⟩⟩⟩)) fun k a w hx s=> ?_
 have hlz:(pvs m ps).length=ps.length:=by simp
 have hcl:=zM7 (crK ps p) k
 refine zYO ?_
 refine zYO ?_
 refine zB 4 ((10,.Z (uI (k:Int)))::(11,.Z (wB l))::(12,.Z (uI ((pvs m ps).length:Int)))::(13,.u (uB (ltz k ((pvs m ps).length)))):: []) hmix s kJ
  (oc zC<|oc zC<|oc (yW (z:=6) (Cs:=pvs m ps) kJ (fun v W hb h=>(yU hl h (s.up hb))) (fun _=>rfl))<|oc (zR .i64 (k:Int) ((pvs m ps).length:Int) (ltz k ((pvs m ps).length)) iiz iiz rfl rfl)<|zD) fun a w4 s=> ?_
 refine zA rfl ?_
 refine StS.cond s (ltz k ((pvs m ps).length)) iiz (fun e=> ?_) (fun e=> ?_)
 ·have hk:k<ps.length:=by have h7:=zY1 e;rw [hlz] at h7;omega
  refine zYQ ?_
  refine zYO ?_
  refine zYZ ?_
  refine zYO ?_
  refine zB 7 ((17,.Z (wB l))::(18,.Z (uI (k:Int)))::(19,.Z (zDU (fPV m (at_ ps k)) (fPV m (tn ps k)) (uB true)))::(16,.Z (zDU (fPV m (at_ ps k)) (fPV m (tn ps k)) (uB true)))::(20,.u (fPV m (at_ ps k)))::(21,.u (fPV m (tn ps k)))::(22,.u (uB true)):: []) hmix s kJ
   (oc zC<|oc zC<|oc (zI zE zPd (fun u0 u1 W hb (h0:u0=l) (h1:u1= .int .i64 (k:Int))=>zDA (m:=m) (ps:=ps) (k:=k) (yU hl h0 (s.up hb)) h1 hk hn h2))<|oc zC<|oc (zCT (A:=(fPV m (at_ ps k)).tS) (B:=(fPV m (tn ps k)).tS) (C:=(uB true).tS) iiz)<|oc (zCS (A:=(fPV m (at_ ps k)).tS) (B:=(fPV m (tn ps k)).tS) (C:=(uB true).tS) iiz)<|oc (zCR (A:=(fPV m (at_ ps k)).tS) (B:=(fPV m (tn ps k)).tS) (C:=(uB true).tS) iiz)<|zD) fun a w5 s=> ?_
  refine zZ (CU.len 6) (cs:=zP6) kJ rfl s kJ (fun W=>rfl) rfl fun b7 a w s=> ?_
  refine zZ (CU.len 6) (cs:=zP6) kJ rfl s kJ (fun W=>rfl) rfl fun b8 a w s=> ?_
  refine zS (wC (fPV m (at_ ps k))) ((fPV m (at_ ps k)).tS) rfl s kJ rfl rfl rfl iiz iiz yV fun a w s=> ?_
  refine zS (wC (fPV m (tn ps k))) ((fPV m (tn ps k)).tS) rfl s kJ rfl rfl rfl iiz iiz yV fun a w s=> ?_
  refine yP (uB true) rfl s kJ iiz fun a w s=> ?_
  refine zA rfl ?_
  refine zYO ?_
  refine zB 13 ((23,.Z (uB true))::(24,.Z (uB true))::(25,.Z (fPV m p))::(26,.Z (fPV m (at_ ps k)))::(27,.Z (fPV m (tn ps k)))::(28,.Z (uB (zCF (at_ ps k) (tn ps k) p)))::(29,.Z (uB (zCF (at_ ps k) (tn ps k) p)))::(30,.s (SF.imp ((zCF (at_ ps k) (tn ps k) p)=false) ((fPV m p).tS)))::(31,.s (SF.imp ((zCF (at_ ps k) (tn ps k) p)=false) ((fPV m (tn ps k)).tS)))::(32,.s (SF.imp ((zCF (at_ ps k) (tn ps k) p)=false) ((fPV m (at_ ps k)).tS)))::(33,.s (SF.imp ((zCF (at_ ps k) (tn ps k) p)=false) ((uB (zCF (tn ps k) (at_ ps k) p)).tS)))::(34,.Z (uB ((zCF (at_ ps k) (tn ps k) p)||(zCF (tn ps k) (at_ ps k) p))))::(35,.u (uB ((zCF (at_ ps k) (tn ps k) p)||(zCF (tn ps k) (at_ ps k) p)))):: []) hmix s kJ
   (oc zC<|oc zC<|oc (zF 24 true kJ iiz (fun _=>zJ (f:=fPV m p) 6 kJ (hz:=zO _ _)) arf)<|oc (zF 24 true kJ iiz (fun _=>zJ (f:=fPV m (at_ ps k)) 6 kJ (hz:=zO _ _)) arf)<|oc (zF 24 true kJ iiz (fun _=>zJ (f:=fPV m (tn ps k)) 6 kJ (hz:=zO _ _)) arf)<|oc (zF 24 true kJ iiz (fun _=>jF zE zTS (fun u0 u1 u2 W hb (h0:(fPV m p).p u0 W) (h1:(fPV m (at_ ps k)).p u1 W) (h2:(fPV m (tn ps k)).p u2 W)=>zJe (m:=m) h0 h1 h2 hm hm0)) arf)<|oc (zF 24 true kJ iiz (fun _=>zC) arf)<|oc (zF 29 (zCF (at_ ps k) (tn ps k) p) kJ iiz (fun e=>zQ [] ((fPV m p).tS) fnz fS kJ (zJ (f:=fPV m p) 6 kJ (hz:=zO _ _))) fQ)<|oc (zF 29 (zCF (at_ ps k) (tn ps k) p) kJ iiz (fun e=>zQ [] ((fPV m (tn ps k)).tS) fnz fS kJ (zJ (f:=fPV m (tn ps k)) 6 kJ (hz:=zO _ _))) fQ)<|oc (zF 29 (zCF (at_ ps k) (tn ps k) p) kJ iiz (fun e=>zQ [] ((fPV m (at_ ps k)).tS) fnz fS kJ (zJ (f:=fPV m (at_ ps k)) 6 kJ (hz:=zO _ _))) fQ)<|oc (zF 29 (zCF (at_ ps k) (tn ps k) p) kJ iiz (fun e=>zQ [(30,(fPV m p).tS),(31,(fPV m (tn ps k)).tS),(32,(fPV m (at_ ps k)).tS)] ((uB (zCF (tn ps k) (at_ ps k) p)).tS) (fmz ⟨fun v W h=>zK (c:=(zCF (at_ ps k) (tn ps k) p)=false) (f:=(fPV m p).tS) e h,fmz ⟨fun v W h=>zK (c:=(zCF (at_ ps k) (tn ps k) p)=false) (f:=(fPV m (tn ps k)).tS) e h,fmz ⟨fun v W h=>zK (c:=(zCF (at_ ps k) (tn ps k) p)=false) (f:=(fPV m (at_ ps k)).tS) e h,fnz⟩⟩⟩) fS kJ (jF zE zTS (fun u0 u1 u2 W hb (h0:(fPV m p).p u0 W) (h1:(fPV m (tn ps k)).p u1 W) (h2:(fPV m (at_ ps k)).p u2 W)=>zJe (m:=m) h0 h1 h2 hm hm0))) fQ)<|oc (zF 24 true kJ iiz (fun _=>yJ (zCF (at_ ps k) (tn ps k) p) iiz (fun e v W h=>zDf h e) (fun e v W h=>zB9 (zK e h) e)) arf)<|oc (yJ true iiz fR (fun e=>by cases e))<|zD) fun a w6 s=> ?_
  refine zA rfl ?_
  refine StS.cond s ((zCF (at_ ps k) (tn ps k) p)||(zCF (tn ps k) (at_ ps k) p)) iiz (fun e=> ?_) (fun e=> ?_)
  ·have e9:crK ps p k=true:=by unfold crK;rw [<-zQw];exact e
   refine zX 2 ((36,.Z (uI ((zEw (crK ps p) k:Nat):Int)))::(37,.u (uI ((zEw (crK ps p) (k+1):Nat):Int))):: []) s kJ
    (oc zC<|oc (yM .i64 ((zEw (crK ps p) k:Nat):Int) 1 ((zEw (crK ps p) (k+1):Nat):Int) iiz iiz (by rw [zY9,zQx e9];omega))<|zD) fun a w7 s=> ?_
   replace s:=s.drop [5]
   refine yP (uI ((zEw (crK ps p) (k+1):Nat):Int)) rfl s kJ iiz fun a w s=> ?_
   refine zA rfl ?_
   refine zX 2 ((14,.Z (uI (k:Int)))::(15,.u (uI ((k+1:Nat):Int))):: []) s kJ
    (oc zC<|oc (yM .i64 (k:Int) 1 ((k+1:Nat):Int) iiz iiz (wrap64 _ _ oQ oQ))<|zD) fun a w8 s=> ?_
   replace s:=s.drop [6]
   refine yP (uI ((k+1:Nat):Int)) rfl s kJ iiz fun a w s=> ?_
   refine zA rfl ?_
   replace s:=s.popB
   replace s:=s.popB
   exact ⟨k+1,hk,(by show ps.length - (k+1)<ps.length - k;omega),s.keepK _ (fmz ⟨zNs,fmz ⟨.head _,fmz ⟨mz2,fnz⟩⟩⟩)⟩
  ·have e9:crK ps p k=false:=by unfold crK;rw [<-zQw];exact e
   have e0:zEw (crK ps p) (k)=zEw (crK ps p) (k+1):=(zM8 e9).symm
   rw [e0] at s
   refine zYQ ?_
   refine zX 2 ((14,.Z (uI (k:Int)))::(15,.u (uI ((k+1:Nat):Int))):: []) s kJ
    (oc zC<|oc (yM .i64 (k:Int) 1 ((k+1:Nat):Int) iiz iiz (wrap64 _ _ oQ oQ))<|zD) fun a w9 s=> ?_
   replace s:=s.drop [6]
   refine yP (uI ((k+1:Nat):Int)) rfl s kJ iiz fun a w s=> ?_
   refine zA rfl ?_
   replace s:=s.popB
   replace s:=s.popB
   exact ⟨k+1,hk,(by show ps.length - (k+1)<ps.length - k;omega),s.keepK _ (fmz ⟨mz8,fmz ⟨.head _,fmz ⟨mz9,fnz⟩⟩⟩)⟩
 ·have hkN:k=ps.length:=by have h7:=zY3 e;rw [hlz] at h7;omega
  subst hkN
  refine zZc ?_
  refine zYO ?_
  refine zB 2 ((38,.Z (uI ((zEw (crK ps p) (ps.length):Nat):Int)))::(4,.u (uI ((zEw (crK ps p) (ps.length):Nat):Int))):: []) hmix s kJ
   (oc zC<|oc zG<|zD) fun a w10 s=> ?_
  refine zA rfl ?_
  refine zYP ?_
  exact wG s (t:=4) rfl (fun v W h=>by unfold crN;rw [zMa h2];exact h)
theorem zKd {l:Wu} (h1:(fPV m p).p u W) (hl:(wD 6 (pvs m ps)).p l W) (hm:m<=246) (hm0:0<m) (hn:ps.length<=1000000) (h2:2<=ps.length):Calls prog 10 #[u,l] W (Ret W (fI (zBl ps p)).tS):=by
 refine z7 [(fPV m p).tS,(wB l).tS] func10 rfl kJ ⟨h1,rfl,trivial⟩ fun a s=> ?_
 replace s:=s.renew [(0,.u (fPV m p)),(1,.u (wB l))] (fmz ⟨.inr ⟨_,rfl,.head _⟩,fmz ⟨.inr ⟨_,rfl,mz1⟩,fnz⟩⟩)
 refine zYO ?_
 refine zB 0 [] hmix s kJ
  zD fun a w1 s=> ?_
 refine yG (wC (fPV m p)) rfl s kJ (fun v W h=>yO h) fun b2 a w s=> ?_
 refine yP (uI 0) rfl s kJ iiz fun a w s=> ?_
 refine zA rfl ?_
 refine zYO ?_
 refine zYZ ?_
 refine zYO ?_
 refine zB 5 ((6,.Z (fPV m p))::(7,.Z (wB l))::(8,.Z (uI (onI ps p)))::(9,.Z (uB (decide (onI ps p≥0))))::(5,.u (uB (decide (onI ps p≥0)))):: []) hmix s kJ
  (oc (zJ (f:=fPV m p) 6 kJ (hz:=zO _ _))<|oc zC<|oc (zI zE zVF (fun u0 u1 W hb (h0:(fPV m p).p u0 W) (h1:u1=l)=>zRz (m:=m) (ps:=ps) h0 (yU hl h1 (s.up hb)) hm hm0 hn h2))<|oc (zR .i64 (onI ps p) 0 (decide (onI ps p≥0)) iiz iiz rfl rfl)<|oc zG<|zD) fun a w2 s=> ?_
 refine zA rfl ?_
 refine StS.cond s (decide (onI ps p≥0)) iiz (fun e=> ?_) (fun e=> ?_)
 ·have e1:=zY1 e
  refine zYO ?_
  replace s:=s.drop [4]
  refine zB 1 ((4,.u (uI 0)):: []) hmix s kJ
   (oc zG<|zD) fun a w3 s=> ?_
  refine zA rfl ?_
  refine zYP ?_
  exact wG s (t:=4) rfl (fun v W h=>by unfold zBl;rw [if_pos e1];exact h)
 ·have e1:=zY3 e
  refine zYO ?_
  refine zB 6 ((11,.Z (fPV m p))::(12,.Z (wB l))::(13,.Z (uI ((crN ps p:Nat):Int)))::(14,.Z (uI ((crN ps p % 2:Nat):Int)))::(15,.Z (uB (((crN ps p % 2:Nat):Int)==1)))::(10,.u (uB (((crN ps p % 2:Nat):Int)==1))):: []) hmix s kJ
   (oc (zJ (f:=fPV m p) 6 kJ (hz:=zO _ _))<|oc zC<|oc (zI zE zVE (fun u0 u1 W hb (h0:(fPV m p).p u0 W) (h1:u1=l)=>zHj (m:=m) (ps:=ps) h0 (yU hl h1 (s.up hb)) hm hm0 hn h2))<|oc (zCa .i64 ((crN ps p:Nat):Int) 2 ((crN ps p % 2:Nat):Int) iiz iiz oQ (zD9 _ _))<|oc (zR .i64 ((crN ps p % 2:Nat):Int) 1 (((crN ps p % 2:Nat):Int)==1) iiz iiz rfl rfl)<|oc zG<|zD) fun a w4 s=> ?_
  refine zA rfl ?_
  refine StS.cond s (((crN ps p % 2:Nat):Int)==1) iiz (fun e=> ?_) (fun e=> ?_)
  ·have e2:=zYU.1 e
   refine zYO ?_
   replace s:=s.drop [4]
   refine zB 1 ((4,.u (uI 1)):: []) hmix s kJ
    (oc zG<|zD) fun a w5 s=> ?_
   refine zA rfl ?_
   refine zYP ?_
   exact wG s (t:=4) rfl (fun v W h=>by unfold zBl;rw [if_neg e1,e2];exact h)
  ·have e2:=zZb.1 e
   refine zYQ ?_
   refine zYO ?_
   replace s:=s.drop [4]
   refine zB 1 ((4,.u (uI (-1))):: []) hmix s kJ
    (oc zG<|zD) fun a w6 s=> ?_
   refine zA rfl ?_
   refine zYP ?_
   exact wG s (t:=4) rfl (fun v W h=>by unfold zBl;rw [if_neg e1,show ((crN ps p % 2:Nat):Int)=0 by omega];exact h)
theorem zOV (h:Conv ps) (p:V2):inK ps p ps.length=(zBl ps p==1):=by
 have h3:=h.three
 rw [Bool.eq_iff_iff,zYU,(h.where_iff p).1]
 unfold inK
 rw [zY0,zY2]
 constructor
 ·exact fun ⟨_,h⟩ i hi=>zBw.1 (zYU.1 (h i (zYY.2 hi)))
 ·exact fun h=>⟨zZe oQ,fun i hi=>zYU.2 (zBw.2 (h i (zYY.1 hi)))⟩
theorem zMD (h3:3<=ps.length) (p:V2):inK ps p ps.length=true↔ ∀i,i<ps.length->0<edg ps i p:=by
 unfold inK
 rw [zY0,zY2]
 constructor
 ·exact fun ⟨_,h⟩ i hi=>zBw.1 (zYU.1 (h i (zYY.2 hi)))
 ·exact fun h=>⟨zZe oQ,fun i hi=>zYU.2 (zBw.2 (h i (zYY.1 hi)))⟩
theorem zMB (hk:k<ps.length) (h: ¬0<edg ps k p):inK ps p ps.length=false:=by
 cases e:inK ps p ps.length with
 |false=>rfl
 |true=>
  unfold inK at e
  rw [zY0,zY2] at e
  exact absurd (zBw.1 (zYU.1 (e.2 k (zYY.2 hk)))) h
theorem zMC (hk:k<ps.length):inK ps (at_ ps k) ps.length=false:=zMB hk (by unfold edg crs;grind)
theorem zRX (hk:k<ps.length) (t:Rat):inK ps (seg (at_ ps k) (at_ ps ((k+1) % ps.length)) t) ps.length=false:=zMB hk (by unfold edg crs seg;grind)
abbrev zDR:Rat:=((((0:Int):Rat)+((1:Int):Rat)) / 2)
theorem zR4:zDR=1 / 2:=by decide+kernel
theorem zRW (h:Conv ps) {k:Nat} (hk:k<ps.length) {p:V2} (hp:inK ps p ps.length=true):inK ps (seg (at_ ps k) p zDR) ps.length=true:=by
 have hp:=(zMD h.three p).1 hp
 refine (zMD h.three _).2 fun i hi=> ?_
 have h1:=h.left i k hi hk
 have h2:=hp i hi
 have e:edg ps i (seg (at_ ps k) p zDR)=(edg ps i (at_ ps k)+edg ps i p) / 2:=by
  rw [zR4]
  unfold edg crs seg
  grind
 rw [e]
 grind
theorem zRZ (p:V2):inK [] p 0=false:=rfl
theorem zGV (ps:List V2) (p:V2):(whL [ps, [],ps] p).length=if inK ps p ps.length=true then 2 else 0:=by
 unfold whL
 rw [show List.range [ps, [],ps].length= [0,1,2] from rfl]
 cases e:inK ps p ps.length<;>simp [zRZ,e]
theorem zWa (h:inK ps p ps.length=true):(zDq (whL [ps, [],ps] p)).length=2:=by
 simp [zDq,zGV,h]
theorem zWb (h:inK ps p ps.length=false):(zDq (whL [ps, [],ps] p)).length=0:=by
 simp [zDq,zGV,h]
theorem zK7 {a b:Rat} (ha:QB a m) (hb:QB b n) (ht:QB t k):QB (a+(b - a)*t) (m+n+k+2):=by
 have da:=q7 ha.2;have db:=q7 hb.2;have dt:=q7 ht.2
 have e1:=zFg a;have e2:=zFg b;have e3:=zFg t
 refine vC (X:=a.num*(b.den:Int)*(t.den:Int)+(b.num*(a.den:Int)+ -(a.num*(b.den:Int)))*t.num) (D:=(a.den:Int)*(b.den:Int)*(t.den:Int)) oQ ?_ ?_ ?_ ?_
 ·simp only [Rat.intCast_mul,Rat.intCast_add,Rat.intCast_neg,Rat.intCast_natCast,e1,e2,e3]
  grind
 ·have h1:(a.den:Int)≠0:=by have:=a.den_pos;omega
  have h2:(b.den:Int)≠0:=by have:=b.den_pos;omega
  have h3:(t.den:Int)≠0:=by have:=t.den_pos;omega
  exact Int.mul_ne_zero (Int.mul_ne_zero h1 h2) h3
 ·exact (((ha.1.mul db).mul dt).mono (m':=m+n+k+1) oQ).add (((((hb.1.mul da).mono (m':=m+n) oQ).add ((ha.1.mul db).neg)).mul ht.1).mono oQ)
 ·exact ((da.mul db).mul dt).mono oQ
theorem zWd (ha:QB a.1 6/\QB a.2 6) (hb:QB b.1 6/\QB b.2 6) (ht:QB t k) (hk:k<=40):QB (seg a b t).1 159/\QB (seg a b t).2 159:=
 ⟨(zK7 ha.1 hb.1 ht).mono oQ,(zK7 ha.2 hb.2 ht).mono oQ⟩
theorem zIn:QB zDR 1:=⟨by unfold Bd BB;decide+kernel,by unfold BB;decide+kernel⟩
theorem zUY (h: ∀q,q∈ps->QB q.1 6/\QB q.2 6) {i j:Nat} (hi:i<ps.length) (hj:j<ps.length):zEt (at_ ps i) (at_ ps j):=⟨6,6,h _ (zBC hi),h _ (zBC hj),by decide⟩
theorem zDB {x:PX} (h:x.big6=false) (cs:List Wu) (W:Wt) (hc:(PX.cu x).p cs W):0+6<=cs.length/\(fPV 6 x.p).p (.agg ((cs.drop 0).take 6).toArray) W:=zEF cs W (zLO h hc)
abbrev t1B (r:QX):Bool:=decide (r.q.num.sign≥0)
abbrev t2B (r:QX):Bool:=decide (qsg r.q ((1:Int):Rat)<=0)
theorem zSX {z:Nat} {Cs:List CU} (h:(wD z Cs).p v W):(fSl Cs.length).p v W:=by
 obtain ⟨A,c,e,_⟩:=h
 exact ⟨A,c,e⟩
theorem zLF {x:QX} (h:x.n<=40/\x.n'<=40) (cs:List Wu) (W:Wt) (hc:(QX.cu x).p cs W):0+3<=cs.length/\(fRV 40 x.q).p (.agg ((cs.drop 0).take 3).toArray) W:=by
 have hl:=zPQ _ _ _ _ cs W hc
 refine ⟨by omega, ?_⟩
 rw [List.drop_zero,List.take_of_length_le oQ]
 exact zUu hc h.1 h.2
theorem zKl {F:Fence} {P:Program} {w0:Wt} {ops:Array Oper} {G:Nat->SF} {d:Tmp} {ty:TypeId} {pos:String} {aft:Array Edge} {t:TypeId} {x y z:Operand} (h: ∀u v q W,bW w0 W->(fct G x).p u W->(fct G y).p v W->(fct G z).p q W-> ∃e cs,z5 P t 3 [(0,u),(1,v),(2,q)]=some (e,cs)/\(G d).p (.slice (some ⟨W.heap.size,0,none⟩) 3 3) (W.alloc (.cells cs e))):qK F m P w0 ops G ⟨some d,.buildSlice t 3 #[(0,x),(1,y),(2,z)],ty,pos,aft,none⟩:=
 zDF fun b W hb hf=>by
  obtain ⟨e,cs,h1,h2⟩:=h _ _ _ W hb (hf x (by simp)) (hf y (by simp)) (hf z (by simp))
  exact ⟨e,cs,by simpa using h1,h2⟩
theorem zOW {A:List PX} {y:PX} {r:QX} {z:Int} {l q:Wu} (hl0:(wD 6 (pxs A)).p l W) (hy:(PX.u y).p u W) (hz:q= .int .i64 z) (ht:QXp r.n r.n' r.k r.d x W) (hAl:A.length<=1048576) (_: ∀p,p∈A->PX.b p<=1048576) (_:PX.b y<=1048576) (_: -9223372036854775808<=z/\z<=9223372036854775807) (hrb:r.n+r.n'<=1048576) (hT:Tab W):Calls prog 3 #[l,u,q,x] W (Ret W (fB true).tS):=by
 have hGo:g8 (A++ [y])=false->(wD 6 (pvs 6 (pps A))).p l W/\(∀q,q∈pps A->QB q.1 6/\QB q.2 6)/\y.big6=false:=fun hG=>by
  have hG':=(zU7 hG).2
  have h1:=zOj (fun x hx=>hG' x (by simp [hx])) l W hl0
  exact ⟨h1,zJi dC h1,hG' y (by simp)⟩
 refine z7 [(wB l).tS,(PX.u y).tS,(uI z).tS,(fQX r.n r.n' r.k r.d).tS] func3 rfl kJ ⟨rfl,hy,hz,ht,trivial⟩ fun a s=> ?_
 replace s:=s.renew [(0,.u (wB l)),(1,.u (PX.u y)),(2,.u (uI z)),(3,.u (fQX r.n r.n' r.k r.d))] (fmz ⟨.inr ⟨_,rfl,.head _⟩,fmz ⟨.inr ⟨_,rfl,mz1⟩,fmz ⟨.inr ⟨_,rfl,mz2⟩,fmz ⟨.inr ⟨_,rfl,mz3⟩,fnz⟩⟩⟩⟩)
 refine zYO ?_
 refine zB 0 [] hmix s kJ
  zD fun a w1 s=> ?_
 refine yG (PX.cu y) rfl s kJ (fun v W h=>yO h) fun b5 a w s=> ?_
 refine yG (QX.cu r) rfl s kJ (fun v W h=>zS7 h) fun b7 a w s=> ?_
 refine yP (uB false) rfl s kJ iiz fun a w s=> ?_
 refine zA rfl ?_
 refine zYO ?_
 refine zYO ?_
 have sb:=s;have so:=s.old;have sg:=s.gr.size
 refine zIh (GW w) hmix s fun w2 hwb s=> ?_
 have hz:=hwb.size
 refine zD8 [] [0,1,2,3,4] ((12,.s (wZ w2 30))::(13,.Z (wB l))::(14,.s (wJ w2 30 6 (pxs A)))::(15,.Z (PX.u y))::(16,.s (wD 6 [PX.cu y])):: []) (zIC hwb) s kJ
  (oc (zHu (z:=6) kJ)<|oc zC<|oc (zL6 (pxs A) kJ iiz (fun v W hb h=>(yU hl0 h (s.up hb))) (zTf _) (by simp;omega))<|oc (zJ (f:=PX.u y) 6 kJ (hz:=zO _ _))<|oc (zAb (fun u W (hu:(PX.u y).p u W)=>zI2 hu))<|zD)
  zEk fun a w3 hbw s hr=> ?_
 replace hwb:=hwb.trans (hbw.mono hwb.size)
 refine zGf (i:=5) (x:= .tmp 14) (y:= .tmp 16) ([PX.cu y]) hwb s sg (zAE.mono (hr (_,_) mz2) hz) rfl (zB3 rfl) kJ kJ kJ rfl (hr (_,_) mz4) (zLX _ _) (by simp;omega) so fun v17 a w4 hwb hN17 s=> ?_
 have hR17:=hN17.row
 rw [zOi] at hR17
 have hz:=hwb.size
 refine zD8 [] [6,7,8,9,10,11,12,13,14,15,16,17,18,19,20,21] ((18,.Z (uB (g8 (A++ [y]))))::(19,.Z (uB (g8 (A++ [y]))))::(20,.s (SF.imp ((g8 (A++ [y]))=false) ((fQX r.n r.n' r.k r.d).tS)))::(21,.s (SF.imp ((g8 (A++ [y]))=false) (wD 3 ([r].map QX.cu))))::(22,.s (SF.imp ((g8 (A++ [y]))=false) ((uB (gq [r])).tS)))::(23,.Z (uB ((g8 (A++ [y]))||(gq [r]))))::(24,.Z (uB ((g8 (A++ [y]))||(gq [r]))))::(25,.s (SF.imp (((g8 (A++ [y]))||(gq [r]))=false) ((wB l).tS)))::(26,.s (SF.imp (((g8 (A++ [y]))||(gq [r]))=false) ((uI ((pxs A).length:Int)).tS)))::(27,.s (SF.imp (((g8 (A++ [y]))||(gq [r]))=false) ((uB (decide (((pxs A).length:Int)>10))).tS)))::(28,.Z (uB (((g8 (A++ [y]))||(gq [r]))||(decide (((pxs A).length:Int)>10)))))::(29,.Z (uB (((g8 (A++ [y]))||(gq [r]))||(decide (((pxs A).length:Int)>10)))))::(30,.s (SF.imp ((((g8 (A++ [y]))||(gq [r]))||(decide (((pxs A).length:Int)>10)))=false) ((wB l).tS)))::(31,.s (SF.imp ((((g8 (A++ [y]))||(gq [r]))||(decide (((pxs A).length:Int)>10)))=false) ((uB (zC1 (pps A))).tS)))::(32,.s (SF.imp ((((g8 (A++ [y]))||(gq [r]))||(decide (((pxs A).length:Int)>10)))=false) ((uB (!(zC1 (pps A)))).tS)))::(33,.u (uB ((((g8 (A++ [y]))||(gq [r]))||(decide (((pxs A).length:Int)>10)))||(!(zC1 (pps A)))))):: []) (zIC hwb) s kJ
  (oc (zH zE zWI (fun u0 W hb (h0:u0=v17)=>zLp (L:=A++ [y]) (yU hR17 h0 hb)))<|oc zC<|oc (zF 19 (g8 (A++ [y])) kJ iiz (fun e=>zQ [] ((fQX r.n r.n' r.k r.d).tS) fnz fS kJ (zJ (f:=fQX r.n r.n' r.k r.d) 3 kJ (hz:=zPQ _ _ _ _))) fQ)<|oc (zF 19 (g8 (A++ [y])) kJ iiz (fun e=>zQ [(20,(fQX r.n r.n' r.k r.d).tS)] (wD 3 ([r].map QX.cu)) (fmz ⟨fun v W h=>zK (c:=(g8 (A++ [y]))=false) (f:=(fQX r.n r.n' r.k r.d).tS) e h,fnz⟩) fS kJ (zAb (fun u W (hu:(fQX r.n r.n' r.k r.d).p u W)=>zSP hu))) fQ)<|oc (zF 19 (g8 (A++ [y])) kJ iiz (fun e=>zQ [(21,wD 3 ([r].map QX.cu))] ((uB (gq [r])).tS) (fmz ⟨fun v W h=>zK (c:=(g8 (A++ [y]))=false) (f:=wD 3 ([r].map QX.cu)) e h,fnz⟩) fS kJ (zH zE zWH (fun u0 W hb (h0:(wD 3 ([r].map QX.cu)).p u0 W)=>zLx (L:= [r]) h0 (fun x hx=>by rw [List.mem_singleton.1 hx];omega)))) fQ)<|oc (yJ (g8 (A++ [y])) iiz (fun e v W h=>zDf h e) (fun e v W h=>zB9 (zK e h) e))<|oc zC<|oc (zF 24 ((g8 (A++ [y]))||(gq [r])) kJ iiz (fun e=>zQ [] ((wB l).tS) fnz fS kJ zC) fQ)<|oc (zF 24 ((g8 (A++ [y]))||(gq [r])) kJ iiz (fun e=>zQ [(25,(wB l).tS)] ((uI ((pxs A).length:Int)).tS) (fmz ⟨fun v W h=>zK (c:=((g8 (A++ [y]))||(gq [r]))=false) (f:=(wB l).tS) e h,fnz⟩) fS kJ (yW (z:=6) (Cs:=pxs A) kJ (fun v W hb h=>(yU hl0 h (s.up hb))) (fun _=>rfl))) fQ)<|oc (zF 24 ((g8 (A++ [y]))||(gq [r])) kJ iiz (fun e=>zQ [(26,(uI ((pxs A).length:Int)).tS)] ((uB (decide (((pxs A).length:Int)>10))).tS) (fmz ⟨fun v W h=>zK (c:=((g8 (A++ [y]))||(gq [r]))=false) (f:=(uI ((pxs A).length:Int)).tS) e h,fnz⟩) fS kJ (zR .i64 ((pxs A).length:Int) 10 (decide (((pxs A).length:Int)>10)) iiz iiz rfl rfl)) fQ)<|oc (yJ ((g8 (A++ [y]))||(gq [r])) iiz (fun e v W h=>zDf h e) (fun e v W h=>zB9 (zK e h) e))<|oc zC<|oc (zF 29 (((g8 (A++ [y]))||(gq [r]))||(decide (((pxs A).length:Int)>10))) kJ iiz (fun e=>zQ [] ((wB l).tS) fnz fS kJ zC) fQ)<|oc (zF 29 (((g8 (A++ [y]))||(gq [r]))||(decide (((pxs A).length:Int)>10))) kJ iiz (fun e=>zQ [(30,(wB l).tS)] ((uB (zC1 (pps A))).tS) (fmz ⟨fun v W h=>zK (c:=(((g8 (A++ [y]))||(gq [r]))||(decide (((pxs A).length:Int)>10)))=false) (f:=(wB l).tS) e h,fnz⟩) fS kJ (zH zE zWG (fun u0 W hb (h0:u0=l)=>zLC (ps:=(pps A)) (by rw [show _=l from h0];exact zGl dC _ _ ((wD 6 _).st _ _ _ (hGo (by simp only [zZi] at e;exact e.1.1)).1 (s.up hb))) (by have:=(zU7 (L:=A++ [y]) (by simp only [zZi] at e;exact e.1.1)).1;simp at this ⊢;omega) (fun i j hi hj _=>zUY (hGo (by simp only [zZi] at e;exact e.1.1)).2.1 hi hj)))) fQ)<|oc (zF 29 (((g8 (A++ [y]))||(gq [r]))||(decide (((pxs A).length:Int)>10))) kJ iiz (fun e=>zQ [(31,(uB (zC1 (pps A))).tS)] ((uB (!(zC1 (pps A)))).tS) (fmz ⟨fun v W h=>zK (c:=(((g8 (A++ [y]))||(gq [r]))||(decide (((pxs A).length:Int)>10)))=false) (f:=(uB (zC1 (pps A))).tS) e h,fnz⟩) fS kJ (zCy (zC1 (pps A)) iiz (fun _=>rfl))) fQ)<|oc (yJ (((g8 (A++ [y]))||(gq [r]))||(decide (((pxs A).length:Int)>10))) iiz (fun e v W h=>zDf h e) (fun e v W h=>zB9 (zK e h) e))<|zD)
  zEk fun a w5 hbw s hr=> ?_
 replace hwb:=hwb.trans (hbw.mono hwb.size)
 refine zGe kJ ?_
 refine StS.cond s ((((g8 (A++ [y]))||(gq [r]))||(decide (((pxs A).length:Int)>10)))||(!(zC1 (pps A)))) iiz (fun e=> ?_) (fun e=> ?_)
 ·refine zYO ?_
  replace s:=s.drop [8]
  refine zB 2 ((34,.Z (uB true))::(8,.u (uB true)):: []) hmix s kJ
   (oc (zCb zE zVl (fun W hb=>zH3 (hT.below (s.up hb))))<|oc zG<|zD) fun a w6 s=> ?_
  refine zA rfl ?_
  refine zYP ?_
  exact wG s (t:=8) rfl iiz
 ·simp only [zZi] at e
  obtain ⟨⟨⟨eG,eQ⟩,_⟩,eS⟩:=e
  obtain ⟨hA,hq,hy6⟩:=hGo eG
  have hlen:=(zU7 eG).1
  have hnA:(pps A).length<=1000000:=by simp at hlen ⊢;omega
  have hr40:=zO5 eQ r (by simp)
  have hC:Conv (pps A):=zKA (by simpa using eS)
  have h3A:=hC.three
  have hqr:QB r.q 40:=QXp.qb ht hr40
  have hqy:QB y.p.1 6/\QB y.p.2 6:=zB6 dC (zLO hy6 hy)
  obtain ⟨kk,hk',hkk⟩:=zUU z (show 0<(pvs 6 (pps A)).length by simp;simp at h3A;omega)
  have hkk':kk<(pps A).length:=by simpa using hk'
  have hni:((kk+1) % (pps A).length)<(pps A).length:=zY4 _ oQ
  have hqS:=zWd (hq _ (zBC hkk')) (hq _ (zBC hni)) hqr lr
  have hqH:=zWd (hq _ (zBC hkk')) hqy zIn dC
  have hlz:(pvs 6 (pps A)).length=(pps A).length:=by simp
  refine zYQ ?_
  refine zYO ?_
  refine zB 4 ((35,.Z (wB l))::(36,.Z (fPV 6 (y.p)))::(37,.Z (uB (inK (pps A) y.p (pps A).length)))::(9,.u (uB (inK (pps A) y.p (pps A).length))):: []) hmix s kJ
   (oc zC<|oc (zBr (C:=(PX.cu y).cf) 6 kJ (fun _ _ h=>h.2) (zDB hy6))<|oc (zI zE zSc (fun u0 u1 W hb (h0:u0=l) (h1:(fPV 6 (y.p)).p u1 W)=>zIB (m:=6) (p:=y.p) (ps:=(pps A)) (yU hA h0 (s.up hb)) h1 dC dC hnA (hT.below (s.up hb))))<|oc zG<|zD) fun a w7 s=> ?_
  refine zA rfl ?_
  refine zYO ?_
  refine zX 10 ((38,.Z (uI z))::(39,.Z (wB l))::(40,.Z (uI ((pvs 6 (pps A)).length:Int)))::(41,.Z (uI ((z).tmod ((pvs 6 (pps A)).length:Int))))::(42,.Z (wB l))::(43,.Z (uI ((pvs 6 (pps A)).length:Int)))::(44,.Z (uI (z.tmod ((pvs 6 (pps A)).length:Int)+((pvs 6 (pps A)).length:Int))))::(45,.Z (wB l))::(46,.Z (uI ((pvs 6 (pps A)).length:Int)))::(47,.u (uI (kk:Int))):: []) s kJ
   (oc zC<|oc zC<|oc (yW (z:=6) (Cs:=pvs 6 (pps A)) kJ (fun v W hb h=>(yU hA h (s.up hb))) (fun _=>rfl))<|oc (zCa .i64 z ((pvs 6 (pps A)).length:Int) ((z).tmod ((pvs 6 (pps A)).length:Int)) iiz iiz oQ rfl)<|oc zC<|oc (yW (z:=6) (Cs:=pvs 6 (pps A)) kJ (fun v W hb h=>(yU hA h (s.up hb))) (fun _=>rfl))<|oc (yM .i64 ((z).tmod ((pvs 6 (pps A)).length:Int)) ((pvs 6 (pps A)).length:Int) (z.tmod ((pvs 6 (pps A)).length:Int)+((pvs 6 (pps A)).length:Int)) iiz iiz (by have h1: -((pvs 6 (pps A)).length:Int)<z.tmod ((pvs 6 (pps A)).length:Int):=Int.lt_tmod_of_pos z oQ;have h2:z.tmod ((pvs 6 (pps A)).length:Int)<((pvs 6 (pps A)).length:Int):=Int.tmod_lt_of_pos z oQ;exact zQQ oQ oQ))<|oc zC<|oc (yW (z:=6) (Cs:=pvs 6 (pps A)) kJ (fun v W hb h=>(yU hA h (s.up hb))) (fun _=>rfl))<|oc (zCa .i64 (z.tmod ((pvs 6 (pps A)).length:Int)+((pvs 6 (pps A)).length:Int)) ((pvs 6 (pps A)).length:Int) (kk:Int) iiz iiz oQ hkk)<|zD) fun a w8 s=> ?_
  replace s:=s.drop [2]
  refine yP (uI (kk:Int)) rfl s kJ iiz fun a w s=> ?_
  refine zA rfl ?_
  refine zYO ?_
  refine zYO ?_
  refine zB 14 ((48,.Z (uB (inK (pps A) y.p (pps A).length)))::(49,.Z (fPV 6 (y.p)))::(50,.Z (wB l))::(51,.Z (uI (zBl (pps A) y.p)))::(52,.Z (uB (inK (pps A) y.p (pps A).length)))::(53,.Z (uB false))::(54,.Z (uB false))::(55,.Z (wB l))::(56,.Z (wB l))::(57,.Z (uI (kk:Int)))::(58,.Y (fPV 6 (at_ (pps A) kk)))::(59,.Z (fPV 6 (at_ (pps A) kk)))::(60,.Z (uB false))::(61,.u (uB false)):: []) hmix s kJ
   (oc zC<|oc (zBr (C:=(PX.cu y).cf) 6 kJ (fun _ _ h=>h.2) (zDB hy6))<|oc zC<|oc (zI zE zVO (fun u0 u1 W hb (h0:(fPV 6 (y.p)).p u0 W) (h1:u1=l)=>zKd (m:=6) (p:=y.p) (ps:=(pps A)) h0 (yU hA h1 (s.up hb)) dC dC hnA oQ))<|oc (zR .i64 (zBl (pps A) y.p) 1 (inK (pps A) y.p (pps A).length) iiz iiz (zOV hC y.p).symm rfl)<|oc (zFd (inK (pps A) y.p (pps A).length) (inK (pps A) y.p (pps A).length) false kJ iiz iiz (bne_self_eq_false _) rfl)<|oc zC<|oc (zF 54 false kJ iiz (fun _=>zC) arf)<|oc (zF 54 false kJ iiz (fun _=>zC) arf)<|oc (zF 54 false kJ iiz (fun _=>zC) arf)<|oc (zF 54 false kJ iiz (fun _=>yL (z:=6) (Cs:=pvs 6 (pps A)) (i:=kk) (C:=wC (fPV 6 (at_ (pps A) kk))) kJ (qI hkk') (fun v W hb h=>(yU hA h (s.up hb))) iiz) arf)<|oc (zF 54 false kJ iiz (fun _=>zJ (f:=fPV 6 (at_ (pps A) kk)) 6 kJ (hz:=zO _ _)) arf)<|oc (zF 54 false kJ iiz (fun _=>zI zE zSc (fun u0 u1 W hb (h0:u0=l) (h1:(fPV 6 (at_ (pps A) kk)).p u1 W)=>(zIB (m:=6) (p:=(at_ (pps A) kk)) (ps:=(pps A)) (yU hA h0 (s.up hb)) h1 dC dC hnA (hT.below (s.up hb))).mono (wI (fun v W h=>by rw [zMC hkk'] at h;exact h)))) arf)<|oc (yJ false iiz (fun e=>by cases e) fR)<|zD) fun a w9 s=> ?_
  refine zA rfl ?_
  refine StS.cond s false iiz (fun e=>by cases e) (fun e=> ?_)
  refine zYQ ?_
  refine zYO ?_
  refine zYO ?_
  refine zB 27 ((62,.Z (fRV 40 (r.q)))::(63,.Z (uI (r.q.num.sign)))::(64,.Z (uB (t1B r)))::(65,.Z (uB (t1B r)))::(66,.s (SF.imp ((t1B r)=true) ((fRV 40 (r.q)).tS)))::(67,.s (SF.imp ((t1B r)=true) ((fQN ((1:Int):Rat)).tS)))::(68,.s (SF.imp ((t1B r)=true) ((uI (qsg r.q ((1:Int):Rat))).tS)))::(69,.s (SF.imp ((t1B r)=true) ((uB (t2B r)).tS)))::(70,.Z (uB ((t1B r)&&(t2B r))))::(71,.Z (uB ((t1B r)&&(t2B r))))::(72,.s (SF.imp (((t1B r)&&(t2B r))=true) ((wB l).tS)))::(73,.s (SF.imp (((t1B r)&&(t2B r))=true) ((wB l).tS)))::(74,.s (SF.imp (((t1B r)&&(t2B r))=true) ((uI (kk:Int)).tS)))::(75,.s (SF.imp (((t1B r)&&(t2B r))=true) (wE (cg (fPV 6 (at_ (pps A) kk))))))::(76,.s (SF.imp (((t1B r)&&(t2B r))=true) ((fPV 6 (at_ (pps A) kk)).tS)))::(77,.s (SF.imp (((t1B r)&&(t2B r))=true) ((wB l).tS)))::(78,.s (SF.imp (((t1B r)&&(t2B r))=true) ((uI (kk:Int)).tS)))::(79,.s (SF.imp (((t1B r)&&(t2B r))=true) ((uI ((kk+1:Nat):Int)).tS)))::(80,.s (SF.imp (((t1B r)&&(t2B r))=true) ((wB l).tS)))::(81,.s (SF.imp (((t1B r)&&(t2B r))=true) ((uI ((pvs 6 (pps A)).length:Int)).tS)))::(82,.s (SF.imp (((t1B r)&&(t2B r))=true) ((uI ((((kk+1) % (pps A).length):Nat):Int)).tS)))::(83,.s (SF.imp (((t1B r)&&(t2B r))=true) (wE (cg (fPV 6 (tn (pps A) kk))))))::(84,.s (SF.imp (((t1B r)&&(t2B r))=true) ((fPV 6 (tn (pps A) kk)).tS)))::(85,.s (SF.imp (((t1B r)&&(t2B r))=true) ((fRV 40 (r.q)).tS)))::(86,.s (SF.imp (((t1B r)&&(t2B r))=true) ((fPV 159 (seg (at_ (pps A) kk) (tn (pps A) kk) r.q)).tS)))::(87,.s (SF.imp (((t1B r)&&(t2B r))=true) ((uB false).tS)))::(88,.u (uB false)):: []) hmix s kJ
   (oc (zBr (C:=(QX.cu r).cf) 3 kJ (fun _ _ h=>h.2) (zLF hr40))<|oc (zH zE zPi (fun u0 W hb (h0:RVp 40 (r.q) u0 W)=>zEE (m:=40) h0 dC))<|oc (zR .i64 (r.q.num.sign) 0 (t1B r) iiz iiz rfl rfl)<|oc zC<|oc (zF 65 (t1B r) kJ iiz (fun e=>zQ [] ((fRV 40 (r.q)).tS) fnz fS kJ (zBr (C:=(QX.cu r).cf) 3 kJ (fun _ _ h=>h.2) (zLF hr40))) fQ)<|oc (zF 65 (t1B r) kJ iiz (fun e=>zQ [] ((fQN ((1:Int):Rat)).tS) fnz fS kJ (zH zE zFq (fun u0 W hb (h0:u0= .int .i64 1)=>zCt 1 h0 dC))) fQ)<|oc (zF 65 (t1B r) kJ iiz (fun e=>zQ [(66,(fRV 40 (r.q)).tS),(67,(fQN ((1:Int):Rat)).tS)] ((uI (qsg r.q ((1:Int):Rat))).tS) (fmz ⟨fun v W h=>zK (c:=(t1B r)=true) (f:=(fRV 40 (r.q)).tS) e h,fmz ⟨fun v W h=>zK (c:=(t1B r)=true) (f:=(fQN ((1:Int):Rat)).tS) e h,fnz⟩⟩) fS kJ (zI zE zIH (fun u0 u1 W hb (h0:RVp 40 (r.q) u0 W) (h1:QNp ((1:Int):Rat) u1 W)=>zDc (m:=40) h0 (wK h1 ((qbz (z:=1) dC).mono dC)) dC dC))) fQ)<|oc (zF 65 (t1B r) kJ iiz (fun e=>zQ [(68,(uI (qsg r.q ((1:Int):Rat))).tS)] ((uB (t2B r)).tS) (fmz ⟨fun v W h=>zK (c:=(t1B r)=true) (f:=(uI (qsg r.q ((1:Int):Rat))).tS) e h,fnz⟩) fS kJ (zR .i64 (qsg r.q ((1:Int):Rat)) 0 (t2B r) iiz iiz rfl rfl)) fQ)<|oc (yJ (t1B r) iiz (fun e v W h=>jU (zK e h) e) (fun e v W h=>jD h e))<|oc zC<|oc (zF 71 ((t1B r)&&(t2B r)) kJ iiz (fun e=>zQ [] ((wB l).tS) fnz fS kJ zC) fQ)<|oc (zF 71 ((t1B r)&&(t2B r)) kJ iiz (fun e=>zQ [] ((wB l).tS) fnz fS kJ zC) fQ)<|oc (zF 71 ((t1B r)&&(t2B r)) kJ iiz (fun e=>zQ [] ((uI (kk:Int)).tS) fnz fS kJ zC) fQ)<|oc (zF 71 ((t1B r)&&(t2B r)) kJ iiz (fun e=>zQ [(73,(wB l).tS),(74,(uI (kk:Int)).tS)] (wE (cg (fPV 6 (at_ (pps A) kk)))) (fmz ⟨fun v W h=>zK (c:=((t1B r)&&(t2B r))=true) (f:=(wB l).tS) e h,fmz ⟨fun v W h=>zK (c:=((t1B r)&&(t2B r))=true) (f:=(uI (kk:Int)).tS) e h,fnz⟩⟩) fS kJ (yL (z:=6) (Cs:=pvs 6 (pps A)) (i:=kk) (C:=wC (fPV 6 (at_ (pps A) kk))) kJ (qI hkk') (fun v W hb h=>(yU hA h (s.up hb))) iiz)) fQ)<|oc (zF 71 ((t1B r)&&(t2B r)) kJ iiz (fun e=>zQ [(75,wE (cg (fPV 6 (at_ (pps A) kk))))] ((fPV 6 (at_ (pps A) kk)).tS) (fmz ⟨fun v W h=>zK (c:=((t1B r)&&(t2B r))=true) (f:=wE (cg (fPV 6 (at_ (pps A) kk)))) e h,fnz⟩) fS kJ (zJ (f:=fPV 6 (at_ (pps A) kk)) 6 kJ (hz:=zO _ _))) fQ)<|oc (zF 71 ((t1B r)&&(t2B r)) kJ iiz (fun e=>zQ [] ((wB l).tS) fnz fS kJ zC) fQ)<|oc (zF 71 ((t1B r)&&(t2B r)) kJ iiz (fun e=>zQ [] ((uI (kk:Int)).tS) fnz fS kJ zC) fQ)<|oc (zF 71 ((t1B r)&&(t2B r)) kJ iiz (fun e=>zQ [(78,(uI (kk:Int)).tS)] ((uI ((kk+1:Nat):Int)).tS) (fmz ⟨fun v W h=>zK (c:=((t1B r)&&(t2B r))=true) (f:=(uI (kk:Int)).tS) e h,fnz⟩) fS kJ (yM .i64 (kk:Int) 1 ((kk+1:Nat):Int) iiz iiz (by rw [zY9];omega))) fQ)<|oc (zF 71 ((t1B r)&&(t2B r)) kJ iiz (fun e=>zQ [] ((wB l).tS) fnz fS kJ zC) fQ)<|oc (zF 71 ((t1B r)&&(t2B r)) kJ iiz (fun e=>zQ [(80,(wB l).tS)] ((uI ((pvs 6 (pps A)).length:Int)).tS) (fmz ⟨fun v W h=>zK (c:=((t1B r)&&(t2B r))=true) (f:=(wB l).tS) e h,fnz⟩) fS kJ (yW (z:=6) (Cs:=pvs 6 (pps A)) kJ (fun v W hb h=>(yU hA h (s.up hb))) (fun _=>rfl))) fQ)<|oc (zF 71 ((t1B r)&&(t2B r)) kJ iiz (fun e=>zQ [(79,(uI ((kk+1:Nat):Int)).tS),(81,(uI ((pvs 6 (pps A)).length:Int)).tS)] ((uI ((((kk+1) % (pps A).length):Nat):Int)).tS) (fmz ⟨fun v W h=>zK (c:=((t1B r)&&(t2B r))=true) (f:=(uI ((kk+1:Nat):Int)).tS) e h,fmz ⟨fun v W h=>zK (c:=((t1B r)&&(t2B r))=true) (f:=(uI ((pvs 6 (pps A)).length:Int)).tS) e h,fnz⟩⟩) fS kJ (zCa .i64 ((kk+1:Nat):Int) ((pvs 6 (pps A)).length:Int) ((((kk+1) % (pps A).length):Nat):Int) iiz iiz oQ (by rw [hlz];exact zD9 _ _))) fQ)<|oc (zF 71 ((t1B r)&&(t2B r)) kJ iiz (fun e=>zQ [(77,(wB l).tS),(82,(uI ((((kk+1) % (pps A).length):Nat):Int)).tS)] (wE (cg (fPV 6 (tn (pps A) kk)))) (fmz ⟨fun v W h=>zK (c:=((t1B r)&&(t2B r))=true) (f:=(wB l).tS) e h,fmz ⟨fun v W h=>zK (c:=((t1B r)&&(t2B r))=true) (f:=(uI ((((kk+1) % (pps A).length):Nat):Int)).tS) e h,fnz⟩⟩) fS kJ (yL (z:=6) (Cs:=pvs 6 (pps A)) (i:=((kk+1) % (pps A).length)) (C:=wC (fPV 6 (tn (pps A) kk))) kJ (qI hni) (fun v W hb h=>(yU hA h (s.up hb))) iiz)) fQ)<|oc (zF 71 ((t1B r)&&(t2B r)) kJ iiz (fun e=>zQ [(83,wE (cg (fPV 6 (tn (pps A) kk))))] ((fPV 6 (tn (pps A) kk)).tS) (fmz ⟨fun v W h=>zK (c:=((t1B r)&&(t2B r))=true) (f:=wE (cg (fPV 6 (tn (pps A) kk)))) e h,fnz⟩) fS kJ (zJ (f:=fPV 6 (tn (pps A) kk)) 6 kJ (hz:=zO _ _))) fQ)<|oc (zF 71 ((t1B r)&&(t2B r)) kJ iiz (fun e=>zQ [] ((fRV 40 (r.q)).tS) fnz fS kJ (zBr (C:=(QX.cu r).cf) 3 kJ (fun _ _ h=>h.2) (zLF hr40))) fQ)<|oc (zF 71 ((t1B r)&&(t2B r)) kJ iiz (fun e=>zQ [(76,(fPV 6 (at_ (pps A) kk)).tS),(84,(fPV 6 (tn (pps A) kk)).tS),(85,(fRV 40 (r.q)).tS)] ((fPV 159 (seg (at_ (pps A) kk) (tn (pps A) kk) r.q)).tS) (fmz ⟨fun v W h=>zK (c:=((t1B r)&&(t2B r))=true) (f:=(fPV 6 (at_ (pps A) kk)).tS) e h,fmz ⟨fun v W h=>zK (c:=((t1B r)&&(t2B r))=true) (f:=(fPV 6 (tn (pps A) kk)).tS) e h,fmz ⟨fun v W h=>zK (c:=((t1B r)&&(t2B r))=true) (f:=(fRV 40 (r.q)).tS) e h,fnz⟩⟩⟩) fS kJ (jF zE zSj (fun u0 u1 u2 W hb (h0:(fPV 6 (at_ (pps A) kk)).p u0 W) (h1:(fPV 6 (tn (pps A) kk)).p u1 W) (h2:RVp 40 (r.q) u2 W)=>(zLr (m:=6) (k:=40) 53 (p:=(at_ (pps A) kk)) (q:=(tn (pps A) kk)) (t:=r.q) h0 h1 h2 (zB6 dC h0) (zB6 dC h1) hqr dC dC dC).mono (wI (fun v W h=>zAz (m:=159) hqS.1 hqS.2 h))))) fQ)<|oc (zF 71 ((t1B r)&&(t2B r)) kJ iiz (fun e=>zQ [(72,(wB l).tS),(86,(fPV 159 (seg (at_ (pps A) kk) (tn (pps A) kk) r.q)).tS)] ((uB false).tS) (fmz ⟨fun v W h=>zK (c:=((t1B r)&&(t2B r))=true) (f:=(wB l).tS) e h,fmz ⟨fun v W h=>zK (c:=((t1B r)&&(t2B r))=true) (f:=(fPV 159 (seg (at_ (pps A) kk) (tn (pps A) kk) r.q)).tS) e h,fnz⟩⟩) fS kJ (zI zE zSc (fun u0 u1 W hb (h0:u0=l) (h1:(fPV 159 (seg (at_ (pps A) kk) (tn (pps A) kk) r.q)).p u1 W)=>(zIB (m:=159) (p:=(seg (at_ (pps A) kk) (tn (pps A) kk) r.q)) (ps:=(pps A)) (zGl (m:=6) dC _ _ (yU hA h0 (s.up hb))) h1 dC dC hnA (hT.below (s.up hb))).mono (wI (fun v W h=>by rw [zRX hkk'] at h;exact h))))) fQ)<|oc (yJ ((t1B r)&&(t2B r)) iiz (fun e v W h=>zK (c:=((t1B r)&&(t2B r))=true) (f:=((uB false).tS)) e h) (fun e v W h=>h))<|zD) fun a w10 s=> ?_
  refine zA rfl ?_
  refine StS.cond s false iiz (fun e=>by cases e) (fun e=> ?_)
  refine zYQ ?_
  refine zYO ?_
  refine zB 3 ((89,.Z (fQN ((0:Int):Rat)))::(90,.Z (fQN ((1:Int):Rat)))::(91,.u (fQN zDR)):: []) hmix s kJ
   (oc (zH zE zFq (fun u0 W hb (h0:u0= .int .i64 0)=>zCt 0 h0 dC))<|oc (zH zE zFq (fun u0 W hb (h0:u0= .int .i64 1)=>zCt 1 h0 dC))<|oc (zI zE zTZ (fun u0 u1 W hb (h0:QNp ((0:Int):Rat) u0 W) (h1:QNp ((1:Int):Rat) u1 W)=>zLw (m:=1) (wK h0 (qbz (z:=0) dC)) (wK h1 (qbz (z:=1) dC)) dC dC))<|zD) fun a w11 s=> ?_
  refine zZ (CU.len 3) (cs:=zR3) kJ rfl s kJ (fun W=>rfl) rfl fun b10 a w s=> ?_
  refine zS (wC (fQN zDR)) ((fQN zDR).tS) rfl s kJ rfl rfl rfl iiz iiz yN fun a w s=> ?_
  refine zA rfl ?_
  refine zYO ?_
  refine zB 6 ((92,.Z (wB l))::(93,.Z (wB l))::(94,.s (fRR 6 [(pps A), [],(pps A)]))::(95,.Z (fPV 6 (y.p)))::(96,.Z (fSl ((zDq (whL [(pps A), [],(pps A)] y.p)).length)))::(11,.u (fSl ((zDq (whL [(pps A), [],(pps A)] y.p)).length))):: []) hmix s kJ
   (oc zC<|oc zC<|oc (zKl (fun u v x W hb (hu:u=l) (hv:v= sN) (hx:x=l)=>zSO (ps:=(pps A)) (qs:= []) (rs:=(pps A)) (by rw [show _=l from hu];exact (wD 6 _).st _ _ _ hA (s.up hb)) (by rw [hv];exact zIe 6 _) (by rw [show _=l from hx];exact (wD 6 _).st _ _ _ hA (s.up hb))))<|oc (zBr (C:=(PX.cu y).cf) 6 kJ (fun _ _ h=>h.2) (zDB hy6))<|oc (zI zE zVN (fun u0 u1 W hb h0 (h1:(fPV 6 (y.p)).p u1 W)=>(zOY (m:=6) (Ls:= [(pps A), [],(pps A)]) h0 h1 dC dC (fun x hx=>by simp only [List.mem_cons,List.not_mem_nil,or_false] at hx;rcases hx with rfl|rfl|rfl;exact hnA;exact zY5 _;exact hnA) (by simp) (hT.below (s.up hb))).mono (wI (fun v W h=>zSX (zCW _ _ h)))))<|oc zG<|zD) fun a w12 s=> ?_
  refine zA rfl ?_
  refine zYO ?_
  rcases Bool.eq_false_or_eq_true (inK (pps A) y.p (pps A).length) with hL|hL
  ·rw [hL] at s
   replace s:=s.drop [8]
   refine zB 32 ((97,.Z (uB true))::(98,.Z (uB false))::(99,.Z (uB false))::(100,.Z (wB l))::(101,.Z (wB l))::(102,.Z (uI (kk:Int)))::(103,.Y (fPV 6 (at_ (pps A) kk)))::(104,.Z (fPV 6 (at_ (pps A) kk)))::(105,.Z (fPV 6 (y.p)))::(106,.Z (fQN zDR))::(107,.Z (fPV 159 (seg (at_ (pps A) kk) y.p zDR)))::(108,.Z (uB true))::(109,.Z (uB true))::(110,.Z (uB true))::(111,.Z (fSl ((zDq (whL [(pps A), [],(pps A)] y.p)).length)))::(112,.Z (uI (((zDq (whL [(pps A), [],(pps A)] y.p)).length:Nat):Int)))::(113,.Z (uB true))::(114,.Z (uB true))::(115,.Z (uB true))::(116,.Z (uB true))::(117,.Z (uB true))::(118,.Z (fSl ((zDq (whL [(pps A), [],(pps A)] y.p)).length)))::(119,.Z (uI (((zDq (whL [(pps A), [],(pps A)] y.p)).length:Nat):Int)))::(120,.Z (uB false))::(121,.Z (uB true))::(122,.Z (uB false))::(123,.Z (uB true))::(124,.Z (uB true))::(125,.Z (uB true))::(126,.Z (uB true))::(127,.Z (uB true))::(8,.u (uB true)):: []) hmix s kJ
    (oc zC<|oc (zCy true iiz (fun _=>rfl))<|oc zC<|oc (zF 99 false kJ iiz (fun _=>zC) arf)<|oc (zF 99 false kJ iiz (fun _=>zC) arf)<|oc (zF 99 false kJ iiz (fun _=>zC) arf)<|oc (zF 99 false kJ iiz (fun _=>yL (z:=6) (Cs:=pvs 6 (pps A)) (i:=kk) (C:=wC (fPV 6 (at_ (pps A) kk))) kJ (qI hkk') (fun v W hb h=>(yU hA h (s.up hb))) iiz) arf)<|oc (zF 99 false kJ iiz (fun _=>zJ (f:=fPV 6 (at_ (pps A) kk)) 6 kJ (hz:=zO _ _)) arf)<|oc (zF 99 false kJ iiz (fun _=>zBr (C:=(PX.cu y).cf) 6 kJ (fun _ _ h=>h.2) (zDB hy6)) arf)<|oc (zF 99 false kJ iiz (fun _=>zJ (f:=fQN zDR) 3 kJ (hz:=jC _)) arf)<|oc (zF 99 false kJ iiz (fun _=>jF zE zSj (fun u0 u1 u2 W hb (h0:(fPV 6 (at_ (pps A) kk)).p u0 W) (h1:(fPV 6 (y.p)).p u1 W) (h2:QNp zDR u2 W)=>(zLr (m:=6) (k:=1) 53 (p:=(at_ (pps A) kk)) (q:=y.p) (t:=zDR) h0 h1 (wK h2 zIn) (zB6 dC h0) (zB6 dC h1) zIn dC dC dC).mono (wI (fun v W h=>zAz (m:=159) hqH.1 hqH.2 h)))) arf)<|oc (zF 99 false kJ iiz (fun _=>zI zE zSc (fun u0 u1 W hb (h0:u0=l) (h1:(fPV 159 (seg (at_ (pps A) kk) y.p zDR)).p u1 W)=>(zIB (m:=159) (p:=(seg (at_ (pps A) kk) y.p zDR)) (ps:=(pps A)) (zGl (m:=6) dC _ _ (yU hA h0 (s.up hb))) h1 dC dC hnA (hT.below (s.up hb))).mono (wI (fun v W h=>by rw [zRW hC hkk' hL] at h;exact h)))) arf)<|oc (yJ false iiz (fun e=>by cases e) fR)<|oc zC<|oc (zF 110 true kJ iiz (fun _=>zC) arf)<|oc (zF 110 true kJ iiz (fun _=>zBM kJ (fun v W ⟨A_,c_,e_⟩=>⟨A_,(zDq (whL [(pps A), [],(pps A)] y.p)).length,c_,e_,rfl⟩)) arf)<|oc (zF 110 true kJ iiz (fun _=>zR .i64 (((zDq (whL [(pps A), [],(pps A)] y.p)).length:Nat):Int) 2 true iiz iiz (by rw [zWa hL];rfl) rfl) arf)<|oc (zF 110 true kJ iiz (fun _=>zC) arf)<|oc (zF 110 true kJ iiz (fun _=>zFd true true true kJ iiz iiz (rfl) rfl) arf)<|oc (yJ true iiz fR (fun e=>by cases e))<|oc zC<|oc (zF 117 true kJ iiz (fun _=>zC) arf)<|oc (zF 117 true kJ iiz (fun _=>zBM kJ (fun v W ⟨A_,c_,e_⟩=>⟨A_,(zDq (whL [(pps A), [],(pps A)] y.p)).length,c_,e_,rfl⟩)) arf)<|oc (zF 117 true kJ iiz (fun _=>zR .i64 (((zDq (whL [(pps A), [],(pps A)] y.p)).length:Nat):Int) 0 false iiz iiz (by rw [zWa hL];rfl) rfl) arf)<|oc (zF 117 true kJ iiz (fun _=>zC) arf)<|oc (zF 117 true kJ iiz (fun _=>zCy true iiz (fun _=>rfl)) arf)<|oc (zF 117 true kJ iiz (fun _=>zFd false false true kJ iiz iiz (rfl) rfl) arf)<|oc (yJ true iiz fR (fun e=>by cases e))<|oc zC<|oc (zF 125 true kJ iiz (fun _=>zCb zE zVl (fun W hb=>zH3 (hT.below (s.up hb)))) arf)<|oc (yJ true iiz fR (fun e=>by cases e))<|oc zG<|zD) fun a w13 s=> ?_
   refine zA rfl ?_
   refine zYP ?_
   exact wG s (t:=8) rfl iiz
  ·rw [hL] at s
   replace s:=s.drop [8]
   refine zB 32 ((97,.Z (uB false))::(98,.Z (uB true))::(99,.Z (uB true))::(109,.Z (uB true))::(110,.Z (uB true))::(111,.Z (fSl ((zDq (whL [(pps A), [],(pps A)] y.p)).length)))::(112,.Z (uI (((zDq (whL [(pps A), [],(pps A)] y.p)).length:Nat):Int)))::(113,.Z (uB false))::(114,.Z (uB false))::(115,.Z (uB true))::(116,.Z (uB true))::(117,.Z (uB true))::(118,.Z (fSl ((zDq (whL [(pps A), [],(pps A)] y.p)).length)))::(119,.Z (uI (((zDq (whL [(pps A), [],(pps A)] y.p)).length:Nat):Int)))::(120,.Z (uB true))::(121,.Z (uB false))::(122,.Z (uB true))::(123,.Z (uB true))::(124,.Z (uB true))::(125,.Z (uB true))::(126,.Z (uB true))::(127,.Z (uB true))::(8,.u (uB true)):: []) hmix s kJ
    (oc zC<|oc (zCy false iiz (fun _=>rfl))<|oc zC<|oc (zF 99 true kJ iiz (fun e=>by cases e) (fun _ _=>trivial))<|oc (zF 99 true kJ iiz (fun e=>by cases e) (fun _ _=>trivial))<|oc (zF 99 true kJ iiz (fun e=>by cases e) (fun _ _=>trivial))<|oc (zF 99 true kJ iiz (fun e=>by cases e) (fun _ _=>trivial))<|oc (zF 99 true kJ iiz (fun e=>by cases e) (fun _ _=>trivial))<|oc (zF 99 true kJ iiz (fun e=>by cases e) (fun _ _=>trivial))<|oc (zF 99 true kJ iiz (fun e=>by cases e) (fun _ _=>trivial))<|oc (zF 99 true kJ iiz (fun e=>by cases e) (fun _ _=>trivial))<|oc (zF 99 true kJ iiz (fun e=>by cases e) (fun _ _=>trivial))<|oc (yJ true iiz fR (fun e=>by cases e))<|oc zC<|oc (zF 110 true kJ iiz (fun _=>zC) arf)<|oc (zF 110 true kJ iiz (fun _=>zBM kJ (fun v W ⟨A_,c_,e_⟩=>⟨A_,(zDq (whL [(pps A), [],(pps A)] y.p)).length,c_,e_,rfl⟩)) arf)<|oc (zF 110 true kJ iiz (fun _=>zR .i64 (((zDq (whL [(pps A), [],(pps A)] y.p)).length:Nat):Int) 2 false iiz iiz (by rw [zWb hL];rfl) rfl) arf)<|oc (zF 110 true kJ iiz (fun _=>zC) arf)<|oc (zF 110 true kJ iiz (fun _=>zFd false false true kJ iiz iiz (rfl) rfl) arf)<|oc (yJ true iiz fR (fun e=>by cases e))<|oc zC<|oc (zF 117 true kJ iiz (fun _=>zC) arf)<|oc (zF 117 true kJ iiz (fun _=>zBM kJ (fun v W ⟨A_,c_,e_⟩=>⟨A_,(zDq (whL [(pps A), [],(pps A)] y.p)).length,c_,e_,rfl⟩)) arf)<|oc (zF 117 true kJ iiz (fun _=>zR .i64 (((zDq (whL [(pps A), [],(pps A)] y.p)).length:Nat):Int) 0 true iiz iiz (by rw [zWb hL];rfl) rfl) arf)<|oc (zF 117 true kJ iiz (fun _=>zC) arf)<|oc (zF 117 true kJ iiz (fun _=>zCy false iiz (fun _=>rfl)) arf)<|oc (zF 117 true kJ iiz (fun _=>zFd true true true kJ iiz iiz (rfl) rfl) arf)<|oc (yJ true iiz fR (fun e=>by cases e))<|oc zC<|oc (zF 125 true kJ iiz (fun _=>zCb zE zVl (fun W hb=>zH3 (hT.below (s.up hb)))) arf)<|oc (yJ true iiz fR (fun e=>by cases e))<|oc zG<|zD) fun a w14 s=> ?_
   refine zA rfl ?_
   refine zYP ?_
   exact wG s (t:=8) rfl iiz
end Go.Proofs.Wd
