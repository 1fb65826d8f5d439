/- Walks of package inside: crosses, On, Crossed; Walks of package inside and what it needs. -/
import Derived.Test.YtflmgbgobidieaaGreatDoorMFA20
namespace Go.Proofs.Wd
set_option maxRecDepth 100000
set_option maxHeartbeats 1000000
open Go.RowKit Lb
def crs1 (a b p:V2):Bool:=(decide (qsg a.2 p.2≤0)&&decide (qsg p.2 b.2<0))&&(sideS a b p==1)
def crossB (a b p:V2):Bool:=if qsg a.2 b.2>0 then crs1 b a p else crs1 a b p
theorem crossB_t {a b p:V2} (h:decide (qsg a.2 b.2>0)=true):crossB a b p=crs1 b a p:=if_pos (of_decide_eq_true h)
theorem crossB_f {a b p:V2} (h:decide (qsg a.2 b.2>0)=false):crossB a b p=crs1 a b p:=if_neg (of_decide_eq_false h)
def firstI (f:Nat→Bool) (N:Nat):Int:=match (List.range N).find? f with|some k=>(k:Int)|none=> -1
def noneK (f:Nat→Bool) (k:Nat):Prop:= ∀j,j<k→f j=false
theorem firstI_none {f:Nat→Bool} {N:Nat} (h:noneK f N):firstI f N= -1:=by
 unfold firstI
 rw [List.find?_eq_none.2 (fun x hx=>by rw [h x (List.mem_range.1 hx)];simp)]
theorem firstI_at {f:Nat→Bool} {N k:Nat} (hk:k<N) (h:noneK f k) (e:f k=true):firstI f N=(k:Int):=by
 unfold firstI
 have:(List.range N).find? f=some k:=by
  rw [List.find?_range_eq_some]
  exact ⟨e,List.mem_range.2 hk,fun j hj=>by rw [h j hj];rfl⟩
 rw [this]
theorem noneK_next {f:Nat→Bool} {k:Nat} (h:noneK f k) (e:f k=false):noneK f (k+1):=fun j hj=>by
 rcases Nat.lt_or_eq_of_le (Nat.le_of_lt_succ hj) with h'|h'
 ·exact h j h'
 ·rw [h'];exact e
def cntK (f:Nat→Bool):Nat→Nat
 |0=>0
 |k+1=>cntK f k+(if f k=true then 1 else 0)
theorem cntK_le (f:Nat→Bool): ∀k,cntK f k≤k
 |0=>Nat.le_refl _
 |k+1=>by
  have:=cntK_le f k
  show cntK f k+_≤_
  split<;>omega
theorem cntK_t {f:Nat→Bool} {k:Nat} (h:f k=true):cntK f (k+1)=cntK f k+1:=by show _+(if f k=true then 1 else 0)=_;rw [if_pos h]
theorem cntK_f {f:Nat→Bool} {k:Nat} (h:f k=false):cntK f (k+1)=cntK f k:=by show _+(if f k=true then 1 else 0)=_;rw [if_neg (by simp [h])];rfl
def onK (ps:List V2) (p:V2) (k:Nat):Bool:=onB (at_ ps k) (at_ ps ((k+1) % ps.length)) p
def crK (ps:List V2) (p:V2) (k:Nat):Bool:=crossB (at_ ps k) (at_ ps ((k+1) % ps.length)) p
def onI (ps:List V2) (p:V2):Int:=firstI (onK ps p) (nE ps)
def crN (ps:List V2) (p:V2):Nat:=cntK (crK ps p) (nE ps)
theorem nE_le (ps:List V2):nE ps≤ps.length:=by unfold nE;split<;>omega
def whereV (ps:List V2) (p:V2):Int:=if onI ps p≥0 then 0 else 2*(((crN ps p % 2:Nat)):Int) - 1
theorem sp_int {z:Int} {C:CU} {Q:Prop} (hC: ∀cs W,C.p cs W→cs.length=1∧Q) (v:Value) (W:World) (h:(UF.eq (.int .i64 z)).p v W):v.cells.size=1∧(∀u,u∈v.cells.toList→u.oneCell'=true)∧v.cells.toList.all noLimb=true∧ ∀cs,C.p cs W→0+1≤cs.length∧(CU.isP (.int .i64 z) Q).p (splice cs 0 v.cells.toList) W:=by
 obtain rfl:v=_:=h
 refine ⟨rfl,fun u hu=>by simp [Value.cells] at hu;rw [hu];rfl,rfl,fun cs hc=> ?_⟩
 obtain ⟨hc',hq⟩:=hC cs W hc
 obtain ⟨c,rfl⟩:=List.length_eq_one_iff.1 hc'
 exact ⟨by simp,rfl,hq⟩
section
variable {f g f' g' f'' g'':UF}
theorem sp_pr0 (v:Value) (W:World) (h:(fPT f'' g'').p v W):v.cells.size=6∧(∀u,u∈v.cells.toList→u.oneCell'=true)∧v.cells.toList.all noLimb=true∧ ∀cs,(CU.agg (fPR (fPT f g) (fPT f' g'))).p cs W→0+6≤cs.length∧(CU.agg (fPR (fPT f'' g'') (fPT f' g'))).p (splice cs 0 v.cells.toList) W:=by
 obtain ⟨vs,rfl,hl,h1,h2,h3⟩:=pt_store v W h
 refine ⟨by simpa [Value.cells] using hl,by simpa [Value.cells] using h1,by simpa [Value.cells] using h2,fun cs hc=> ?_⟩
 obtain ⟨a,b,rfl,l1,l2,g1,g2⟩:=pr_parts hc
 refine ⟨by simp [l1,l2],vs,b, ?_,h3,g2⟩
 have e:splice (a++b) 0 (Value.agg vs.toArray).cells.toList=vs++b:=by
  unfold splice
  have:(Value.agg vs.toArray).cells.toList=vs:=rfl
  rw [this,List.take_zero,List.nil_append,Nat.zero_add,hl,List.drop_append_of_le_length (by omega),List.drop_of_length_le (by omega),List.nil_append]
 rw [e]
theorem sp_pr6 (v:Value) (W:World) (h:(fPT f'' g'').p v W):v.cells.size=6∧(∀u,u∈v.cells.toList→u.oneCell'=true)∧v.cells.toList.all noLimb=true∧ ∀cs,(CU.agg (fPR (fPT f g) (fPT f' g'))).p cs W→6+6≤cs.length∧(CU.agg (fPR (fPT f g) (fPT f'' g''))).p (splice cs 6 v.cells.toList) W:=by
 obtain ⟨vs,rfl,hl,h1,h2,h3⟩:=pt_store v W h
 refine ⟨by simpa [Value.cells] using hl,by simpa [Value.cells] using h1,by simpa [Value.cells] using h2,fun cs hc=> ?_⟩
 obtain ⟨a,b,rfl,l1,l2,g1,g2⟩:=pr_parts hc
 refine ⟨by simp [l1,l2],a,vs, ?_,g1,h3⟩
 have e:splice (a++b) 6 (Value.agg vs.toArray).cells.toList=a++vs:=by
  unfold splice
  have:(Value.agg vs.toArray).cells.toList=vs:=rfl
  rw [this,hl,List.take_append_of_le_length (by omega),List.take_of_length_le (by omega),List.drop_of_length_le (by simp;omega),List.append_nil]
 rw [e]
end
theorem bits_and1 (n:Nat) (hn:n<9223372036854775808):bits .and .i64 ((n:Nat):Int) 1=((n % 2:Nat):Int):=by
 have h1:(BitVec.ofInt 64 (n:Int)).toNat=n:=by
  rw [BitVec.ofInt_natCast,BitVec.toNat_ofNat];exact Nat.mod_eq_of_lt (by omega)
 show IntKind.i64.wrap ((BitVec.ofInt 64 (n:Int)&&& BitVec.ofInt 64 (1:Int)).toNat:Int)=_
 rw [BitVec.toNat_and,h1,show (BitVec.ofInt 64 (1:Int)).toNat=1 by decide,Nat.and_one_is_mod,IntKind.wrap_i64]
 omega
section
variable {F:Fence} {m:Nat} {P:Program} {w0:World} {ops:Array Oper} {G:Nat→SF} {d:Tmp} {ty:TypeId} {pos:String} {aft:Array Edge}
theorem ok_and1 {t:TypeId} {x y:Operand} {t':TypeId} (n:Nat) (hn:n<9223372036854775808) (hx: ∀q W,(fct G x).p q W→q= .int .i64 ((n:Nat):Int)) (hy: ∀q W,(fct G y).p q W→q= .int .i64 1) (hd: ∀W,(G d).p (.int .i64 (((n % 2:Nat)):Int)) W:=by exact fun _=>rfl):GdOK F m P w0 ops G ⟨some d, .binOp .and t x y t',ty,pos,aft,none⟩:=
 ok_bin (.int .i64 ((n:Nat):Int)) (.int .i64 1) (.int .i64 (((n % 2:Nat)):Int)) hx hy (fun W=>by simp [eqGuard]) (fun W=>by
  have h:=bits_and1 n hn
  simp [go_sem,h]) hd
end
theorem cross_p {m:Nat} {W:World} {x y p:V2} {u v:Value} (h1:(fPR (fPV (m) (x)) (fPV (m) (y))).p u W) (h2:(fPV m p).p v W) (hm:m≤159) (hm0:0<m) (hT:Tab W):Calls Tryz.prog 123 #[u,v] W (Ret W (fB (crossB x y p)).toSF):=by
 refine run_st [(fPR (fPV (m) (x)) (fPV (m) (y))).toSF,(fPV m p).toSF] Tryz.func123 rfl (by kernel_rfl) ⟨h1,h2,trivial⟩ fun a s=> ?_
 replace s:=s.renew [(0, .u (fPR (fPV (m) (x)) (fPV (m) (y)))),(1, .u (fPV (m) (p)))] (fmz ⟨.inr ⟨_,rfl, .head _⟩,fmz ⟨.inr ⟨_,rfl,mz1⟩,fnz⟩⟩)
 refine wpIn_seq ?_
 refine region_go 0 [] hmix s (by kernel_rfl)
  obs_nil fun a w1 s=> ?_
 refine t_box (CU.agg (fPR (fPV (m) (x)) (fPV (m) (y)))) rfl s (by kernel_rfl) (fun v W h=>pr_box h) fun b2 a w s=> ?_
 refine t_box (CU.agg (fPV (m) (p))) rfl s (by kernel_rfl) (fun v W h=>pt_box h) fun b3 a w s=> ?_
 refine t_set (UF.eq (.bool false)) rfl s (by kernel_rfl) iiz fun a w s=> ?_
 refine tail_end rfl ?_
 refine wpIn_seq ?_
 refine wpIn_seq ?_
 refine region_go 8 ((5, .s (SF.ptr ((CU.agg (fPR (fPV (m) (x)) (fPV (m) (y)))).cf.at 0)))::(6, .s (SF.ptr ((CU.agg (fPR (fPV (m) (x)) (fPV (m) (y)))).cf.at 3)))::(7, .s ((fRV (m) ((x).2)).toSF))::(8, .s (SF.ptr ((CU.agg (fPR (fPV (m) (x)) (fPV (m) (y)))).cf.at 6)))::(9, .s (SF.ptr ((CU.agg (fPR (fPV (m) (x)) (fPV (m) (y)))).cf.at 9)))::(10, .s ((fRV (m) ((y).2)).toSF))::(11, .s ((UF.eq (.int .i64 (qsg ((x).2) ((y).2)))).toSF))::(12, .u (UF.eq (.bool (decide (qsg ((x).2) ((y).2)>0))))):: []) hmix s (by kernel_rfl)
  (oc (ok_fld (C:=(CU.agg (fPR (fPV (m) (x)) (fPV (m) (y)))).cf) 0 (by kernel_rfl))<|oc (ok_fldn (C:=(CU.agg (fPR (fPV (m) (x)) (fPV (m) (y)))).cf) 0 3 (by kernel_rfl))<|oc (ok_ldA (C:=(CU.agg (fPR (fPV (m) (x)) (fPV (m) (y)))).cf) (k:=3) 3 (by kernel_rfl) (h:=pr_y0))<|oc (ok_fld (C:=(CU.agg (fPR (fPV (m) (x)) (fPV (m) (y)))).cf) 6 (by kernel_rfl))<|oc (ok_fldn (C:=(CU.agg (fPR (fPV (m) (x)) (fPV (m) (y)))).cf) 6 3 (by kernel_rfl))<|oc (ok_ldA (C:=(CU.agg (fPR (fPV (m) (x)) (fPV (m) (y)))).cf) (k:=9) 3 (by kernel_rfl) (h:=pr_y6))<|oc (ok_call2 wide_wide en_136 (fun u0 u1 W hb (h0:RVp (m) ((x).2) u0 W) (h1:RVp (m) ((y).2) u1 W)=>rCmp_q h0 h1 (by omega) hm0 (hT.below (s.up hb))))<|oc (ok_cmpI .i64 (qsg ((x).2) ((y).2)) (0) (decide (qsg ((x).2) ((y).2)>0)) iiz iiz rfl rfl)<|obs_nil) fun a w2 s=> ?_
 refine tail_end rfl ?_
 refine StS.cond s (decide (qsg ((x).2) ((y).2)>0)) iiz (fun e=> ?_) (fun e=> ?_)
 ·refine region_go 5 ((13, .s (SF.ptr ((CU.agg (fPR (fPV (m) (x)) (fPV (m) (y)))).cf.at 6)))::(14, .u (fPV (m) (y)))::(15, .s (SF.ptr ((CU.agg (fPR (fPV (m) (x)) (fPV (m) (y)))).cf.at 0)))::(16, .u (fPV (m) (x)))::(17, .u (UF.eq (.pointer (some ⟨b2,0,none⟩)))):: []) hmix s (by kernel_rfl)
   (oc (ok_fld (C:=(CU.agg (fPR (fPV (m) (x)) (fPV (m) (y)))).cf) 6 (by kernel_rfl))<|oc (ok_ldA (C:=(CU.agg (fPR (fPV (m) (x)) (fPV (m) (y)))).cf) (k:=6) 6 (by kernel_rfl) (h:=pr_pt6))<|oc (ok_fld (C:=(CU.agg (fPR (fPV (m) (x)) (fPV (m) (y)))).cf) 0 (by kernel_rfl))<|oc (ok_ldA (C:=(CU.agg (fPR (fPV (m) (x)) (fPV (m) (y)))).cf) (k:=0) 6 (by kernel_rfl) (h:=pr_pt0))<|oc (ok_fldE (b:=b2) (o:=0) 0 (by kernel_rfl) (fun _ _ h=>h.1))<|obs_nil) fun a w3 s=> ?_
  refine t_storeP (c:=2) (o:=0) (kk:=6) (CU.agg (fPR (fPV (m) (y)) (fPV (m) (y)))) ((fPV (m) (y)).toSF) rfl s (by kernel_rfl) rfl rfl iiz iiz (sp_pr0) fun a w s=> ?_
  refine t_gd (UF.eq (.pointer (some ⟨b2,6,none⟩))) rfl s (by kernel_rfl) (ok_fldE (b:=b2) (o:=0) 6 (by kernel_rfl) (fun _ _ h=>h.1)) (by kernel_rfl) fun a w s=> ?_
  refine t_storeP (c:=2) (o:=6) (kk:=6) (CU.agg (fPR (fPV (m) (y)) (fPV (m) (x)))) ((fPV (m) (x)).toSF) rfl s (by kernel_rfl) rfl rfl iiz iiz (sp_pr6) fun a w s=> ?_
  refine tail_end rfl ?_
  refine wpIn_seq ?_
  replace s:=s.drop [4]
  refine region_go 26 ((19, .s (SF.ptr ((CU.agg (fPR (fPV (m) (y)) (fPV (m) (x)))).cf.at 0)))::(20, .s (SF.ptr ((CU.agg (fPR (fPV (m) (y)) (fPV (m) (x)))).cf.at 3)))::(21, .s ((fRV (m) ((y).2)).toSF))::(22, .s (SF.ptr ((CU.agg (fPV (m) (p))).cf.at 3)))::(23, .s ((fRV (m) ((p).2)).toSF))::(24, .s ((UF.eq (.int .i64 (qsg ((y).2) ((p).2)))).toSF))::(25, .s ((UF.eq (.bool (decide (qsg ((y).2) ((p).2)≤0)))).toSF))::(26, .s ((UF.eq (.bool (decide (qsg ((y).2) ((p).2)≤0)))).toSF))::(27, .s (SF.imp ((decide (qsg ((y).2) ((p).2)≤0))=true) (SF.ptr ((CU.agg (fPV (m) (p))).cf.at 3))))::(28, .s (SF.imp ((decide (qsg ((y).2) ((p).2)≤0))=true) ((fRV (m) ((p).2)).toSF)))::(29, .s (SF.imp ((decide (qsg ((y).2) ((p).2)≤0))=true) (SF.ptr ((CU.agg (fPR (fPV (m) (y)) (fPV (m) (x)))).cf.at 6))))::(30, .s (SF.imp ((decide (qsg ((y).2) ((p).2)≤0))=true) (SF.ptr ((CU.agg (fPR (fPV (m) (y)) (fPV (m) (x)))).cf.at 9))))::(31, .s (SF.imp ((decide (qsg ((y).2) ((p).2)≤0))=true) ((fRV (m) ((x).2)).toSF)))::(32, .s (SF.imp ((decide (qsg ((y).2) ((p).2)≤0))=true) ((UF.eq (.int .i64 (qsg ((p).2) ((x).2)))).toSF)))::(33, .s (SF.imp ((decide (qsg ((y).2) ((p).2)≤0))=true) ((UF.eq (.bool (decide (qsg ((p).2) ((x).2)<0)))).toSF)))::(34, .s ((UF.eq (.bool ((decide (qsg ((y).2) ((p).2)≤0))&&(decide (qsg ((p).2) ((x).2)<0))))).toSF))::(35, .s ((UF.eq (.bool ((decide (qsg ((y).2) ((p).2)≤0))&&(decide (qsg ((p).2) ((x).2)<0))))).toSF))::(36, .s (SF.imp (((decide (qsg ((y).2) ((p).2)≤0))&&(decide (qsg ((p).2) ((x).2)<0)))=true) (SF.ptr ((CU.agg (fPR (fPV (m) (y)) (fPV (m) (x)))).cf.at 0))))::(37, .s (SF.imp (((decide (qsg ((y).2) ((p).2)≤0))&&(decide (qsg ((p).2) ((x).2)<0)))=true) ((fPV (m) (y)).toSF)))::(38, .s (SF.imp (((decide (qsg ((y).2) ((p).2)≤0))&&(decide (qsg ((p).2) ((x).2)<0)))=true) (SF.ptr ((CU.agg (fPR (fPV (m) (y)) (fPV (m) (x)))).cf.at 6))))::(39, .s (SF.imp (((decide (qsg ((y).2) ((p).2)≤0))&&(decide (qsg ((p).2) ((x).2)<0)))=true) ((fPV (m) (x)).toSF)))::(40, .s (SF.imp (((decide (qsg ((y).2) ((p).2)≤0))&&(decide (qsg ((p).2) ((x).2)<0)))=true) ((fPV (m) (p)).toSF)))::(41, .s (SF.imp (((decide (qsg ((y).2) ((p).2)≤0))&&(decide (qsg ((p).2) ((x).2)<0)))=true) ((UF.eq (.int .i64 (sideS y x p))).toSF)))::(42, .s (SF.imp (((decide (qsg ((y).2) ((p).2)≤0))&&(decide (qsg ((p).2) ((x).2)<0)))=true) ((UF.eq (.bool (sideS y x p==1))).toSF)))::(43, .s ((UF.eq (.bool (((decide (qsg ((y).2) ((p).2)≤0))&&(decide (qsg ((p).2) ((x).2)<0)))&&(sideS y x p==1)))).toSF))::(4, .u (UF.eq (.bool (((decide (qsg ((y).2) ((p).2)≤0))&&(decide (qsg ((p).2) ((x).2)<0)))&&(sideS y x p==1))))):: []) hmix s (by kernel_rfl)
   (oc (ok_fld (C:=(CU.agg (fPR (fPV (m) (y)) (fPV (m) (x)))).cf) 0 (by kernel_rfl))<|oc (ok_fldn (C:=(CU.agg (fPR (fPV (m) (y)) (fPV (m) (x)))).cf) 0 3 (by kernel_rfl))<|oc (ok_ldA (C:=(CU.agg (fPR (fPV (m) (y)) (fPV (m) (x)))).cf) (k:=3) 3 (by kernel_rfl) (h:=pr_y0))<|oc (ok_fld (C:=(CU.agg (fPV (m) (p))).cf) 3 (by kernel_rfl))<|oc (ok_ldA (C:=(CU.agg (fPV (m) (p))).cf) (k:=3) 3 (by kernel_rfl) (h:=pt_y))<|oc (ok_call2 wide_wide en_136 (fun u0 u1 W hb (h0:RVp (m) ((y).2) u0 W) (h1:RVp (m) ((p).2) u1 W)=>rCmp_q h0 h1 (by omega) hm0 (hT.below (s.up hb))))<|oc (ok_cmpI .i64 (qsg ((y).2) ((p).2)) (0) (decide (qsg ((y).2) ((p).2)≤0)) iiz iiz rfl rfl)<|oc ok_move<|oc (ok_guard 26 (decide (qsg ((y).2) ((p).2)≤0)) (by kernel_rfl) iiz (fun e=>gd_imp [] (SF.ptr ((CU.agg (fPV (m) (p))).cf.at 3)) (fnz) (fun _ _ h _=>h) (by kernel_rfl) (ok_fld (C:=(CU.agg (fPV (m) (p))).cf) 3 (by kernel_rfl))) (fun e W h=>absurd h e))<|oc (ok_guard 26 (decide (qsg ((y).2) ((p).2)≤0)) (by kernel_rfl) iiz (fun e=>gd_imp [(27,SF.ptr ((CU.agg (fPV (m) (p))).cf.at 3))] ((fRV (m) ((p).2)).toSF) (fmz ⟨fun v W h=>imp_app (c:=(decide (qsg ((y).2) ((p).2)≤0))=true) (f:=SF.ptr ((CU.agg (fPV (m) (p))).cf.at 3)) e h,fnz⟩) (fun _ _ h _=>h) (by kernel_rfl) (ok_ldA (C:=(CU.agg (fPV (m) (p))).cf) (k:=3) 3 (by kernel_rfl) (h:=pt_y))) (fun e W h=>absurd h e))<|oc (ok_guard 26 (decide (qsg ((y).2) ((p).2)≤0)) (by kernel_rfl) iiz (fun e=>gd_imp [] (SF.ptr ((CU.agg (fPR (fPV (m) (y)) (fPV (m) (x)))).cf.at 6)) (fnz) (fun _ _ h _=>h) (by kernel_rfl) (ok_fld (C:=(CU.agg (fPR (fPV (m) (y)) (fPV (m) (x)))).cf) 6 (by kernel_rfl))) (fun e W h=>absurd h e))<|oc (ok_guard 26 (decide (qsg ((y).2) ((p).2)≤0)) (by kernel_rfl) iiz (fun e=>gd_imp [(29,SF.ptr ((CU.agg (fPR (fPV (m) (y)) (fPV (m) (x)))).cf.at 6))] (SF.ptr ((CU.agg (fPR (fPV (m) (y)) (fPV (m) (x)))).cf.at 9)) (fmz ⟨fun v W h=>imp_app (c:=(decide (qsg ((y).2) ((p).2)≤0))=true) (f:=SF.ptr ((CU.agg (fPR (fPV (m) (y)) (fPV (m) (x)))).cf.at 6)) e h,fnz⟩) (fun _ _ h _=>h) (by kernel_rfl) (ok_fldn (C:=(CU.agg (fPR (fPV (m) (y)) (fPV (m) (x)))).cf) 6 3 (by kernel_rfl))) (fun e W h=>absurd h e))<|oc (ok_guard 26 (decide (qsg ((y).2) ((p).2)≤0)) (by kernel_rfl) iiz (fun e=>gd_imp [(30,SF.ptr ((CU.agg (fPR (fPV (m) (y)) (fPV (m) (x)))).cf.at 9))] ((fRV (m) ((x).2)).toSF) (fmz ⟨fun v W h=>imp_app (c:=(decide (qsg ((y).2) ((p).2)≤0))=true) (f:=SF.ptr ((CU.agg (fPR (fPV (m) (y)) (fPV (m) (x)))).cf.at 9)) e h,fnz⟩) (fun _ _ h _=>h) (by kernel_rfl) (ok_ldA (C:=(CU.agg (fPR (fPV (m) (y)) (fPV (m) (x)))).cf) (k:=9) 3 (by kernel_rfl) (h:=pr_y6))) (fun e W h=>absurd h e))<|oc (ok_guard 26 (decide (qsg ((y).2) ((p).2)≤0)) (by kernel_rfl) iiz (fun e=>gd_imp [(28,(fRV (m) ((p).2)).toSF),(31,(fRV (m) ((x).2)).toSF)] ((UF.eq (.int .i64 (qsg ((p).2) ((x).2)))).toSF) (fmz ⟨fun v W h=>imp_app (c:=(decide (qsg ((y).2) ((p).2)≤0))=true) (f:=(fRV (m) ((p).2)).toSF) e h,fmz ⟨fun v W h=>imp_app (c:=(decide (qsg ((y).2) ((p).2)≤0))=true) (f:=(fRV (m) ((x).2)).toSF) e h,fnz⟩⟩) (fun _ _ h _=>h) (by kernel_rfl) (ok_call2 wide_wide en_136 (fun u0 u1 W hb (h0:RVp (m) ((p).2) u0 W) (h1:RVp (m) ((x).2) u1 W)=>rCmp_q h0 h1 (by omega) hm0 (hT.below (s.up hb))))) (fun e W h=>absurd h e))<|oc (ok_guard 26 (decide (qsg ((y).2) ((p).2)≤0)) (by kernel_rfl) iiz (fun e=>gd_imp [(32,(UF.eq (.int .i64 (qsg ((p).2) ((x).2)))).toSF)] ((UF.eq (.bool (decide (qsg ((p).2) ((x).2)<0)))).toSF) (fmz ⟨fun v W h=>imp_app (c:=(decide (qsg ((y).2) ((p).2)≤0))=true) (f:=(UF.eq (.int .i64 (qsg ((p).2) ((x).2)))).toSF) e h,fnz⟩) (fun _ _ h _=>h) (by kernel_rfl) (ok_cmpI .i64 (qsg ((p).2) ((x).2)) (0) (decide (qsg ((p).2) ((x).2)<0)) iiz iiz rfl rfl)) (fun e W h=>absurd h e))<|oc (ok_pick (decide (qsg ((y).2) ((p).2)≤0)) iiz (fun e v W h=>pick_and (imp_app e h) e) (fun e v W h=>pick_and' h e))<|oc ok_move<|oc (ok_guard 35 ((decide (qsg ((y).2) ((p).2)≤0))&&(decide (qsg ((p).2) ((x).2)<0))) (by kernel_rfl) iiz (fun e=>gd_imp [] (SF.ptr ((CU.agg (fPR (fPV (m) (y)) (fPV (m) (x)))).cf.at 0)) (fnz) (fun _ _ h _=>h) (by kernel_rfl) (ok_fld (C:=(CU.agg (fPR (fPV (m) (y)) (fPV (m) (x)))).cf) 0 (by kernel_rfl))) (fun e W h=>absurd h e))<|oc (ok_guard 35 ((decide (qsg ((y).2) ((p).2)≤0))&&(decide (qsg ((p).2) ((x).2)<0))) (by kernel_rfl) iiz (fun e=>gd_imp [(36,SF.ptr ((CU.agg (fPR (fPV (m) (y)) (fPV (m) (x)))).cf.at 0))] ((fPV (m) (y)).toSF) (fmz ⟨fun v W h=>imp_app (c:=((decide (qsg ((y).2) ((p).2)≤0))&&(decide (qsg ((p).2) ((x).2)<0)))=true) (f:=SF.ptr ((CU.agg (fPR (fPV (m) (y)) (fPV (m) (x)))).cf.at 0)) e h,fnz⟩) (fun _ _ h _=>h) (by kernel_rfl) (ok_ldA (C:=(CU.agg (fPR (fPV (m) (y)) (fPV (m) (x)))).cf) (k:=0) 6 (by kernel_rfl) (h:=pr_pt0))) (fun e W h=>absurd h e))<|oc (ok_guard 35 ((decide (qsg ((y).2) ((p).2)≤0))&&(decide (qsg ((p).2) ((x).2)<0))) (by kernel_rfl) iiz (fun e=>gd_imp [] (SF.ptr ((CU.agg (fPR (fPV (m) (y)) (fPV (m) (x)))).cf.at 6)) (fnz) (fun _ _ h _=>h) (by kernel_rfl) (ok_fld (C:=(CU.agg (fPR (fPV (m) (y)) (fPV (m) (x)))).cf) 6 (by kernel_rfl))) (fun e W h=>absurd h e))<|oc (ok_guard 35 ((decide (qsg ((y).2) ((p).2)≤0))&&(decide (qsg ((p).2) ((x).2)<0))) (by kernel_rfl) iiz (fun e=>gd_imp [(38,SF.ptr ((CU.agg (fPR (fPV (m) (y)) (fPV (m) (x)))).cf.at 6))] ((fPV (m) (x)).toSF) (fmz ⟨fun v W h=>imp_app (c:=((decide (qsg ((y).2) ((p).2)≤0))&&(decide (qsg ((p).2) ((x).2)<0)))=true) (f:=SF.ptr ((CU.agg (fPR (fPV (m) (y)) (fPV (m) (x)))).cf.at 6)) e h,fnz⟩) (fun _ _ h _=>h) (by kernel_rfl) (ok_ldA (C:=(CU.agg (fPR (fPV (m) (y)) (fPV (m) (x)))).cf) (k:=6) 6 (by kernel_rfl) (h:=pr_pt6))) (fun e W h=>absurd h e))<|oc (ok_guard 35 ((decide (qsg ((y).2) ((p).2)≤0))&&(decide (qsg ((p).2) ((x).2)<0))) (by kernel_rfl) iiz (fun e=>gd_imp [] ((fPV (m) (p)).toSF) (fnz) (fun _ _ h _=>h) (by kernel_rfl) (ok_ldW (f:=fPV (m) (p)) 6 (by kernel_rfl) (hz:=pt_len _ _))) (fun e W h=>absurd h e))<|oc (ok_guard 35 ((decide (qsg ((y).2) ((p).2)≤0))&&(decide (qsg ((p).2) ((x).2)<0))) (by kernel_rfl) iiz (fun e=>gd_imp [(37,(fPV (m) (y)).toSF),(39,(fPV (m) (x)).toSF),(40,(fPV (m) (p)).toSF)] ((UF.eq (.int .i64 (sideS y x p))).toSF) (fmz ⟨fun v W h=>imp_app (c:=((decide (qsg ((y).2) ((p).2)≤0))&&(decide (qsg ((p).2) ((x).2)<0)))=true) (f:=(fPV (m) (y)).toSF) e h,fmz ⟨fun v W h=>imp_app (c:=((decide (qsg ((y).2) ((p).2)≤0))&&(decide (qsg ((p).2) ((x).2)<0)))=true) (f:=(fPV (m) (x)).toSF) e h,fmz ⟨fun v W h=>imp_app (c:=((decide (qsg ((y).2) ((p).2)≤0))&&(decide (qsg ((p).2) ((x).2)<0)))=true) (f:=(fPV (m) (p)).toSF) e h,fnz⟩⟩⟩) (fun _ _ h _=>h) (by kernel_rfl) (ok_call3 wide_wide en_91 (fun u0 u1 u2 W hb (h0:(fPV (m) (y)).p u0 W) (h1:(fPV (m) (x)).p u1 W) (h2:(fPV (m) (p)).p u2 W)=>sside_p h0 h1 h2 hm hm0 (hT.below (s.up hb))))) (fun e W h=>absurd h e))<|oc (ok_guard 35 ((decide (qsg ((y).2) ((p).2)≤0))&&(decide (qsg ((p).2) ((x).2)<0))) (by kernel_rfl) iiz (fun e=>gd_imp [(41,(UF.eq (.int .i64 (sideS y x p))).toSF)] ((UF.eq (.bool (sideS y x p==1))).toSF) (fmz ⟨fun v W h=>imp_app (c:=((decide (qsg ((y).2) ((p).2)≤0))&&(decide (qsg ((p).2) ((x).2)<0)))=true) (f:=(UF.eq (.int .i64 (sideS y x p))).toSF) e h,fnz⟩) (fun _ _ h _=>h) (by kernel_rfl) (ok_cmpI .i64 (sideS y x p) (1) (sideS y x p==1) iiz iiz rfl rfl)) (fun e W h=>absurd h e))<|oc (ok_pick ((decide (qsg ((y).2) ((p).2)≤0))&&(decide (qsg ((p).2) ((x).2)<0))) iiz (fun e v W h=>pick_and (imp_app e h) e) (fun e v W h=>pick_and' h e))<|oc (ok_assign)<|obs_nil) fun a w4 s=> ?_
  refine tail_end rfl ?_
  refine wpIn_ret ?_
  exact StS.res1 s (t:=4) rfl (fun v W h=>by rw [crossB_t e];exact h)
 ·refine wpIn_skip ?_
  refine wpIn_seq ?_
  replace s:=s.drop [4]
  refine region_go 26 ((19, .s (SF.ptr ((CU.agg (fPR (fPV (m) (x)) (fPV (m) (y)))).cf.at 0)))::(20, .s (SF.ptr ((CU.agg (fPR (fPV (m) (x)) (fPV (m) (y)))).cf.at 3)))::(21, .s ((fRV (m) ((x).2)).toSF))::(22, .s (SF.ptr ((CU.agg (fPV (m) (p))).cf.at 3)))::(23, .s ((fRV (m) ((p).2)).toSF))::(24, .s ((UF.eq (.int .i64 (qsg ((x).2) ((p).2)))).toSF))::(25, .s ((UF.eq (.bool (decide (qsg ((x).2) ((p).2)≤0)))).toSF))::(26, .s ((UF.eq (.bool (decide (qsg ((x).2) ((p).2)≤0)))).toSF))::(27, .s (SF.imp ((decide (qsg ((x).2) ((p).2)≤0))=true) (SF.ptr ((CU.agg (fPV (m) (p))).cf.at 3))))::(28, .s (SF.imp ((decide (qsg ((x).2) ((p).2)≤0))=true) ((fRV (m) ((p).2)).toSF)))::(29, .s (SF.imp ((decide (qsg ((x).2) ((p).2)≤0))=true) (SF.ptr ((CU.agg (fPR (fPV (m) (x)) (fPV (m) (y)))).cf.at 6))))::(30, .s (SF.imp ((decide (qsg ((x).2) ((p).2)≤0))=true) (SF.ptr ((CU.agg (fPR (fPV (m) (x)) (fPV (m) (y)))).cf.at 9))))::(31, .s (SF.imp ((decide (qsg ((x).2) ((p).2)≤0))=true) ((fRV (m) ((y).2)).toSF)))::(32, .s (SF.imp ((decide (qsg ((x).2) ((p).2)≤0))=true) ((UF.eq (.int .i64 (qsg ((p).2) ((y).2)))).toSF)))::(33, .s (SF.imp ((decide (qsg ((x).2) ((p).2)≤0))=true) ((UF.eq (.bool (decide (qsg ((p).2) ((y).2)<0)))).toSF)))::(34, .s ((UF.eq (.bool ((decide (qsg ((x).2) ((p).2)≤0))&&(decide (qsg ((p).2) ((y).2)<0))))).toSF))::(35, .s ((UF.eq (.bool ((decide (qsg ((x).2) ((p).2)≤0))&&(decide (qsg ((p).2) ((y).2)<0))))).toSF))::(36, .s (SF.imp (((decide (qsg ((x).2) ((p).2)≤0))&&(decide (qsg ((p).2) ((y).2)<0)))=true) (SF.ptr ((CU.agg (fPR (fPV (m) (x)) (fPV (m) (y)))).cf.at 0))))::(37, .s (SF.imp (((decide (qsg ((x).2) ((p).2)≤0))&&(decide (qsg ((p).2) ((y).2)<0)))=true) ((fPV (m) (x)).toSF)))::(38, .s (SF.imp (((decide (qsg ((x).2) ((p).2)≤0))&&(decide (qsg ((p).2) ((y).2)<0)))=true) (SF.ptr ((CU.agg (fPR (fPV (m) (x)) (fPV (m) (y)))).cf.at 6))))::(39, .s (SF.imp (((decide (qsg ((x).2) ((p).2)≤0))&&(decide (qsg ((p).2) ((y).2)<0)))=true) ((fPV (m) (y)).toSF)))::(40, .s (SF.imp (((decide (qsg ((x).2) ((p).2)≤0))&&(decide (qsg ((p).2) ((y).2)<0)))=true) ((fPV (m) (p)).toSF)))::(41, .s (SF.imp (((decide (qsg ((x).2) ((p).2)≤0))&&(decide (qsg ((p).2) ((y).2)<0)))=true) ((UF.eq (.int .i64 (sideS x y p))).toSF)))::(42, .s (SF.imp (((decide (qsg ((x).2) ((p).2)≤0))&&(decide (qsg ((p).2) ((y).2)<0)))=true) ((UF.eq (.bool (sideS x y p==1))).toSF)))::(43, .s ((UF.eq (.bool (((decide (qsg ((x).2) ((p).2)≤0))&&(decide (qsg ((p).2) ((y).2)<0)))&&(sideS x y p==1)))).toSF))::(4, .u (UF.eq (.bool (((decide (qsg ((x).2) ((p).2)≤0))&&(decide (qsg ((p).2) ((y).2)<0)))&&(sideS x y p==1))))):: []) hmix s (by kernel_rfl)
   (oc (ok_fld (C:=(CU.agg (fPR (fPV (m) (x)) (fPV (m) (y)))).cf) 0 (by kernel_rfl))<|oc (ok_fldn (C:=(CU.agg (fPR (fPV (m) (x)) (fPV (m) (y)))).cf) 0 3 (by kernel_rfl))<|oc (ok_ldA (C:=(CU.agg (fPR (fPV (m) (x)) (fPV (m) (y)))).cf) (k:=3) 3 (by kernel_rfl) (h:=pr_y0))<|oc (ok_fld (C:=(CU.agg (fPV (m) (p))).cf) 3 (by kernel_rfl))<|oc (ok_ldA (C:=(CU.agg (fPV (m) (p))).cf) (k:=3) 3 (by kernel_rfl) (h:=pt_y))<|oc (ok_call2 wide_wide en_136 (fun u0 u1 W hb (h0:RVp (m) ((x).2) u0 W) (h1:RVp (m) ((p).2) u1 W)=>rCmp_q h0 h1 (by omega) hm0 (hT.below (s.up hb))))<|oc (ok_cmpI .i64 (qsg ((x).2) ((p).2)) (0) (decide (qsg ((x).2) ((p).2)≤0)) iiz iiz rfl rfl)<|oc ok_move<|oc (ok_guard 26 (decide (qsg ((x).2) ((p).2)≤0)) (by kernel_rfl) iiz (fun e=>gd_imp [] (SF.ptr ((CU.agg (fPV (m) (p))).cf.at 3)) (fnz) (fun _ _ h _=>h) (by kernel_rfl) (ok_fld (C:=(CU.agg (fPV (m) (p))).cf) 3 (by kernel_rfl))) (fun e W h=>absurd h e))<|oc (ok_guard 26 (decide (qsg ((x).2) ((p).2)≤0)) (by kernel_rfl) iiz (fun e=>gd_imp [(27,SF.ptr ((CU.agg (fPV (m) (p))).cf.at 3))] ((fRV (m) ((p).2)).toSF) (fmz ⟨fun v W h=>imp_app (c:=(decide (qsg ((x).2) ((p).2)≤0))=true) (f:=SF.ptr ((CU.agg (fPV (m) (p))).cf.at 3)) e h,fnz⟩) (fun _ _ h _=>h) (by kernel_rfl) (ok_ldA (C:=(CU.agg (fPV (m) (p))).cf) (k:=3) 3 (by kernel_rfl) (h:=pt_y))) (fun e W h=>absurd h e))<|oc (ok_guard 26 (decide (qsg ((x).2) ((p).2)≤0)) (by kernel_rfl) iiz (fun e=>gd_imp [] (SF.ptr ((CU.agg (fPR (fPV (m) (x)) (fPV (m) (y)))).cf.at 6)) (fnz) (fun _ _ h _=>h) (by kernel_rfl) (ok_fld (C:=(CU.agg (fPR (fPV (m) (x)) (fPV (m) (y)))).cf) 6 (by kernel_rfl))) (fun e W h=>absurd h e))<|oc (ok_guard 26 (decide (qsg ((x).2) ((p).2)≤0)) (by kernel_rfl) iiz (fun e=>gd_imp [(29,SF.ptr ((CU.agg (fPR (fPV (m) (x)) (fPV (m) (y)))).cf.at 6))] (SF.ptr ((CU.agg (fPR (fPV (m) (x)) (fPV (m) (y)))).cf.at 9)) (fmz ⟨fun v W h=>imp_app (c:=(decide (qsg ((x).2) ((p).2)≤0))=true) (f:=SF.ptr ((CU.agg (fPR (fPV (m) (x)) (fPV (m) (y)))).cf.at 6)) e h,fnz⟩) (fun _ _ h _=>h) (by kernel_rfl) (ok_fldn (C:=(CU.agg (fPR (fPV (m) (x)) (fPV (m) (y)))).cf) 6 3 (by kernel_rfl))) (fun e W h=>absurd h e))<|oc (ok_guard 26 (decide (qsg ((x).2) ((p).2)≤0)) (by kernel_rfl) iiz (fun e=>gd_imp [(30,SF.ptr ((CU.agg (fPR (fPV (m) (x)) (fPV (m) (y)))).cf.at 9))] ((fRV (m) ((y).2)).toSF) (fmz ⟨fun v W h=>imp_app (c:=(decide (qsg ((x).2) ((p).2)≤0))=true) (f:=SF.ptr ((CU.agg (fPR (fPV (m) (x)) (fPV (m) (y)))).cf.at 9)) e h,fnz⟩) (fun _ _ h _=>h) (by kernel_rfl) (ok_ldA (C:=(CU.agg (fPR (fPV (m) (x)) (fPV (m) (y)))).cf) (k:=9) 3 (by kernel_rfl) (h:=pr_y6))) (fun e W h=>absurd h e))<|oc (ok_guard 26 (decide (qsg ((x).2) ((p).2)≤0)) (by kernel_rfl) iiz (fun e=>gd_imp [(28,(fRV (m) ((p).2)).toSF),(31,(fRV (m) ((y).2)).toSF)] ((UF.eq (.int .i64 (qsg ((p).2) ((y).2)))).toSF) (fmz ⟨fun v W h=>imp_app (c:=(decide (qsg ((x).2) ((p).2)≤0))=true) (f:=(fRV (m) ((p).2)).toSF) e h,fmz ⟨fun v W h=>imp_app (c:=(decide (qsg ((x).2) ((p).2)≤0))=true) (f:=(fRV (m) ((y).2)).toSF) e h,fnz⟩⟩) (fun _ _ h _=>h) (by kernel_rfl) (ok_call2 wide_wide en_136 (fun u0 u1 W hb (h0:RVp (m) ((p).2) u0 W) (h1:RVp (m) ((y).2) u1 W)=>rCmp_q h0 h1 (by omega) hm0 (hT.below (s.up hb))))) (fun e W h=>absurd h e))<|oc (ok_guard 26 (decide (qsg ((x).2) ((p).2)≤0)) (by kernel_rfl) iiz (fun e=>gd_imp [(32,(UF.eq (.int .i64 (qsg ((p).2) ((y).2)))).toSF)] ((UF.eq (.bool (decide (qsg ((p).2) ((y).2)<0)))).toSF) (fmz ⟨fun v W h=>imp_app (c:=(decide (qsg ((x).2) ((p).2)≤0))=true) (f:=(UF.eq (.int .i64 (qsg ((p).2) ((y).2)))).toSF) e h,fnz⟩) (fun _ _ h _=>h) (by kernel_rfl) (ok_cmpI .i64 (qsg ((p).2) ((y).2)) (0) (decide (qsg ((p).2) ((y).2)<0)) iiz iiz rfl rfl)) (fun e W h=>absurd h e))<|oc (ok_pick (decide (qsg ((x).2) ((p).2)≤0)) iiz (fun e v W h=>pick_and (imp_app e h) e) (fun e v W h=>pick_and' h e))<|oc ok_move<|oc (ok_guard 35 ((decide (qsg ((x).2) ((p).2)≤0))&&(decide (qsg ((p).2) ((y).2)<0))) (by kernel_rfl) iiz (fun e=>gd_imp [] (SF.ptr ((CU.agg (fPR (fPV (m) (x)) (fPV (m) (y)))).cf.at 0)) (fnz) (fun _ _ h _=>h) (by kernel_rfl) (ok_fld (C:=(CU.agg (fPR (fPV (m) (x)) (fPV (m) (y)))).cf) 0 (by kernel_rfl))) (fun e W h=>absurd h e))<|oc (ok_guard 35 ((decide (qsg ((x).2) ((p).2)≤0))&&(decide (qsg ((p).2) ((y).2)<0))) (by kernel_rfl) iiz (fun e=>gd_imp [(36,SF.ptr ((CU.agg (fPR (fPV (m) (x)) (fPV (m) (y)))).cf.at 0))] ((fPV (m) (x)).toSF) (fmz ⟨fun v W h=>imp_app (c:=((decide (qsg ((x).2) ((p).2)≤0))&&(decide (qsg ((p).2) ((y).2)<0)))=true) (f:=SF.ptr ((CU.agg (fPR (fPV (m) (x)) (fPV (m) (y)))).cf.at 0)) e h,fnz⟩) (fun _ _ h _=>h) (by kernel_rfl) (ok_ldA (C:=(CU.agg (fPR (fPV (m) (x)) (fPV (m) (y)))).cf) (k:=0) 6 (by kernel_rfl) (h:=pr_pt0))) (fun e W h=>absurd h e))<|oc (ok_guard 35 ((decide (qsg ((x).2) ((p).2)≤0))&&(decide (qsg ((p).2) ((y).2)<0))) (by kernel_rfl) iiz (fun e=>gd_imp [] (SF.ptr ((CU.agg (fPR (fPV (m) (x)) (fPV (m) (y)))).cf.at 6)) (fnz) (fun _ _ h _=>h) (by kernel_rfl) (ok_fld (C:=(CU.agg (fPR (fPV (m) (x)) (fPV (m) (y)))).cf) 6 (by kernel_rfl))) (fun e W h=>absurd h e))<|oc (ok_guard 35 ((decide (qsg ((x).2) ((p).2)≤0))&&(decide (qsg ((p).2) ((y).2)<0))) (by kernel_rfl) iiz (fun e=>gd_imp [(38,SF.ptr ((CU.agg (fPR (fPV (m) (x)) (fPV (m) (y)))).cf.at 6))] ((fPV (m) (y)).toSF) (fmz ⟨fun v W h=>imp_app (c:=((decide (qsg ((x).2) ((p).2)≤0))&&(decide (qsg ((p).2) ((y).2)<0)))=true) (f:=SF.ptr ((CU.agg (fPR (fPV (m) (x)) (fPV (m) (y)))).cf.at 6)) e h,fnz⟩) (fun _ _ h _=>h) (by kernel_rfl) (ok_ldA (C:=(CU.agg (fPR (fPV (m) (x)) (fPV (m) (y)))).cf) (k:=6) 6 (by kernel_rfl) (h:=pr_pt6))) (fun e W h=>absurd h e))<|oc (ok_guard 35 ((decide (qsg ((x).2) ((p).2)≤0))&&(decide (qsg ((p).2) ((y).2)<0))) (by kernel_rfl) iiz (fun e=>gd_imp [] ((fPV (m) (p)).toSF) (fnz) (fun _ _ h _=>h) (by kernel_rfl) (ok_ldW (f:=fPV (m) (p)) 6 (by kernel_rfl) (hz:=pt_len _ _))) (fun e W h=>absurd h e))<|oc (ok_guard 35 ((decide (qsg ((x).2) ((p).2)≤0))&&(decide (qsg ((p).2) ((y).2)<0))) (by kernel_rfl) iiz (fun e=>gd_imp [(37,(fPV (m) (x)).toSF),(39,(fPV (m) (y)).toSF),(40,(fPV (m) (p)).toSF)] ((UF.eq (.int .i64 (sideS x y p))).toSF) (fmz ⟨fun v W h=>imp_app (c:=((decide (qsg ((x).2) ((p).2)≤0))&&(decide (qsg ((p).2) ((y).2)<0)))=true) (f:=(fPV (m) (x)).toSF) e h,fmz ⟨fun v W h=>imp_app (c:=((decide (qsg ((x).2) ((p).2)≤0))&&(decide (qsg ((p).2) ((y).2)<0)))=true) (f:=(fPV (m) (y)).toSF) e h,fmz ⟨fun v W h=>imp_app (c:=((decide (qsg ((x).2) ((p).2)≤0))&&(decide (qsg ((p).2) ((y).2)<0)))=true) (f:=(fPV (m) (p)).toSF) e h,fnz⟩⟩⟩) (fun _ _ h _=>h) (by kernel_rfl) (ok_call3 wide_wide en_91 (fun u0 u1 u2 W hb (h0:(fPV (m) (x)).p u0 W) (h1:(fPV (m) (y)).p u1 W) (h2:(fPV (m) (p)).p u2 W)=>sside_p h0 h1 h2 hm hm0 (hT.below (s.up hb))))) (fun e W h=>absurd h e))<|oc (ok_guard 35 ((decide (qsg ((x).2) ((p).2)≤0))&&(decide (qsg ((p).2) ((y).2)<0))) (by kernel_rfl) iiz (fun e=>gd_imp [(41,(UF.eq (.int .i64 (sideS x y p))).toSF)] ((UF.eq (.bool (sideS x y p==1))).toSF) (fmz ⟨fun v W h=>imp_app (c:=((decide (qsg ((x).2) ((p).2)≤0))&&(decide (qsg ((p).2) ((y).2)<0)))=true) (f:=(UF.eq (.int .i64 (sideS x y p))).toSF) e h,fnz⟩) (fun _ _ h _=>h) (by kernel_rfl) (ok_cmpI .i64 (sideS x y p) (1) (sideS x y p==1) iiz iiz rfl rfl)) (fun e W h=>absurd h e))<|oc (ok_pick ((decide (qsg ((x).2) ((p).2)≤0))&&(decide (qsg ((p).2) ((y).2)<0))) iiz (fun e v W h=>pick_and (imp_app e h) e) (fun e v W h=>pick_and' h e))<|oc (ok_assign)<|obs_nil) fun a w5 s=> ?_
  refine tail_end rfl ?_
  refine wpIn_ret ?_
  exact StS.res1 s (t:=4) rfl (fun v W h=>by rw [crossB_f e];exact h)
theorem ion_p {m:Nat} {W:World} {u l:Value} {p:V2} {ps:List V2} (h1:(fPV m p).p u W) (hl:(SF.row 6 (pvs m ps)).p l W) (hm:m≤159) (hm0:0<m) (hn:ps.length≤1000000) (hT:Tab W):Calls Tryz.prog 78 #[u,l] W (Ret W (fI (onI ps p)).toSF):=by
 refine run_stM [(fPV m p).toSF,(UF.eq l).toSF] Tryz.func78 rfl (by kernel_rfl) ⟨h1,rfl,trivial⟩ fun a s=> ?_
 replace s:=s.renew [(0, .u (fPV (m) (p))),(1, .u (UF.eq l))] (fmz ⟨.inr ⟨_,rfl, .head _⟩,fmz ⟨.inr ⟨_,rfl,mz1⟩,fnz⟩⟩)
 refine wpIn_seq ?_
 refine region_go 0 [] hmix s (by kernel_rfl)
  obs_nil fun a w1 s=> ?_
 refine t_box (CU.agg (fPV (m) (p))) rfl s (by kernel_rfl) (fun v W h=>pt_box h) fun b2 a w s=> ?_
 refine t_set (UF.eq (.int .i64 (0))) rfl s (by kernel_rfl) iiz fun a w s=> ?_
 refine tail_end rfl ?_
 refine (wpIn_wide (n:=0)).2 (wp_scope_straight ((wpIn_wide (n:=0)).1 ?_))
 refine wpIn_seq ?_
 refine region_go 0 [] hmix s (by kernel_rfl)
  obs_nil fun a w2 s=> ?_
 refine t_alloc (CU.len 1) (cs:= [.int .i64 0]) (by kernel_rfl) rfl s (by kernel_rfl) (fun W=>rfl) rfl fun b5 a w s=> ?_
 refine t_storeP (c:=5) (o:=0) (kk:=1) (CU.isP (.int .i64 (-1)) True) ((UF.eq (.int .i64 (-1))).toSF) rfl s (by kernel_rfl) rfl rfl (fun _ _ h=>h.1) iiz (sp_int fun cs W h=>⟨h,trivial⟩) fun a w s=> ?_
 refine tail_end rfl ?_
 refine wpIn_seq ?_
 refine wpIn_label ?_
 refine wpIn_seq ?_
 refine wpIn_seq ?_
 have soc:=s.old
 have o5:b5<_:=soc _ (.head _)
 have o2:b2<_:=soc _ mz1
 refine region_goN 2 ((8, .s ((UF.eq l).toSF))::(9, .s (fClos w 153 22 (CU.is [l]))):: []) hmix s (by kernel_rfl)
  (oc ok_move<|oc (ok_call1 wide_wide en_120 (fun u0 W hb (h0:u0=l)=>by rw [show u0=l from h0];exact (iedges_p (row_plain hl)).mono (Ret.to (fClos_old hb.size))))<|obs_nil) fun a w3 s hr=> ?_
 refine tail_end rfl ?_
 refine wpIn_block ?_
 obtain ⟨bc,csc,ec,hbc,hhc,hcc,hnc⟩:=hr (_,_) mz1
 obtain rfl:csc= [l]:=hcc
 replace s:=(s.keepK [(1, .u (UF.eq l))] (fmz ⟨mz2,fnz⟩)).learn 9 _ ec
 replace s:StS noS W _ [⟨5,3,CU.isP (.int .i64 (-1)) (noneK (onK ps p) 0),b5,false⟩,⟨2,31,CU.agg (fPV (m) (p)),b2,false⟩] Tryz.f78.ntmps _ a w3:=s.weakB 5 (CU.isP (.int .i64 (-1)) (noneK (onK ps p) 0)) rfl (nodup_of_B (by kernel_rfl)) (fun cs W h=>⟨h.1,fun j hj=>absurd hj (Nat.not_lt_zero _)⟩)
 have hCn: ∀q,inB ([⟨5,3,CU.isP (.int .i64 (-1)) (noneK (onK ps p) 0),b5,false⟩,⟨2,31,CU.agg (fPV (m) (p)),b2,false⟩]) q→W.heap.size≤q:=fun q hq=>s.inB_new hq
 have hCl: ∀q,inB ([⟨5,3,CU.isP (.int .i64 (-1)) (noneK (onK ps p) 0),b5,false⟩,⟨2,31,CU.agg (fPV (m) (p)),b2,false⟩]) q→q<w3.heap.size:=fun q ⟨z9,hz9,e9,_⟩=>e9▸s.old z9 hz9
 refine st_range (N:=nE ps) (endless:=False) (fun k=> [⟨5,3,CU.isP (.int .i64 (-1)) (noneK (onK ps p) k),b5,false⟩,⟨2,31,CU.agg (fPV (m) (p)),b2,false⟩]) ([⟨5,3,CU.isP (.int .i64 (onI ps p)) True,b5,false⟩,⟨2,31,CU.agg (fPV (m) (p)),b2,false⟩]) (.exit 0) (fun k=> [(10, .u (UF.eq (.int .i64 ((k:Nat):Int)))),(11, .u (fPR (fPV (m) ((at_ ps k))) (fPV (m) ((at_ ps ((k+1) % ps.length))))))]) s iiz (enters_of Tryz.func153 (by kernel_rfl) rfl) (iedges_it (w0:=W) hhc hl s.below hCl hCn (fun ⟨z9,hz9,e9,_⟩=>by simp only [List.mem_cons,List.not_mem_nil,or_false] at hz9;rcases hz9 with rfl|rfl<;>(simp only at e9;omega)) hn) (fun k=>rfl) ?_ rfl rfl rfl (fun k=>rfl) rfl (fun h=>h.elim) (fun l_ k xs WR hk so s=> ?_) (fun _ D WD s=> ?_) (fun D WD s=> ?_)
 ·intro k q hq
  rcases List.mem_cons.1 hq with rfl|hq
  ·exact .inr ⟨0,_,rfl,rfl,rfl⟩
  obtain rfl:=List.mem_singleton.1 hq
  exact .inr ⟨1,_,rfl,rfl,rfl⟩
 ·have hLR:Lo W WR:=lo_below so.below
  have hWR:=so.gr.size
  have hSq: ∀q,(inB ([⟨5,3,CU.isP (.int .i64 (-1)) (noneK (onK ps p) 0),b5,false⟩,⟨2,31,CU.agg (fPV (m) (p)),b2,false⟩]) q∨WR.heap.size≤q)→W.heap.size≤q:=fun q hq=>by rcases hq with hq|hq;exact hCn q hq;omega
  generalize ({ tmps:=_,defers:= [] }:Act)=a at s ⊢
  refine wpIn_seq ?_
  refine region_go 1 ((6, .u (UF.eq (.int .i64 (((k:Nat):Int))))):: []) hmix s (by kernel_rfl)
   (oc (ok_assign)<|obs_nil) fun a w4 s=> ?_
  refine tail_end rfl ?_
  refine region_go 0 [] hmix s (by kernel_rfl)
   obs_nil fun a w5 s=> ?_
  refine t_alloc (CU.len 12) (cs:= [.bool false, .slice none 0 0, .slice none 0 0, .bool false, .slice none 0 0, .slice none 0 0, .bool false, .slice none 0 0, .slice none 0 0, .bool false, .slice none 0 0, .slice none 0 0]) (by kernel_rfl) rfl s (by kernel_rfl) (fun W=>rfl) rfl fun b7 a w s=> ?_
  refine t_store (CU.agg (fPR (fPV (m) ((at_ ps k))) (fPV (m) ((at_ ps ((k+1) % ps.length)))))) ((fPR (fPV (m) ((at_ ps k))) (fPV (m) ((at_ ps ((k+1) % ps.length))))).toSF) rfl s (by kernel_rfl) rfl rfl rfl iiz iiz (pr_store) fun a w s=> ?_
  refine tail_end rfl ?_
  refine ⟨s.gr,fun W2 hcell hW2=> ?_⟩
  have hL2:Lo W W2:=(lo_bls hLR s.gr hWR hSq).trans fun p _=>hcell p
  obtain ⟨_,_,h9c,_⟩:=s.bx.mem _ (.head _)
  have hb9:W.heap.size≤b7:=by rcases h9c with h|h|h;cases h;exact Nat.le_trans hWR h;exact hSq _ h
  replace s:=hW2 _ _ s
  have h9l:b7<W2.heap.size:=s.old _ (.head _)
  have hW2s:W.heap.size≤W2.heap.size:=by omega
  have hlo: ∀{w w':World},BlS (fun q=>inB ([⟨5,3,CU.isP (.int .i64 (-1)) (noneK (onK ps p) 0),b5,false⟩,⟨2,31,CU.agg (fPV (m) (p)),b2,false⟩]) q∨WR.heap.size≤q) W2 w→Below w.heap.size w w'→Lo W w':=fun h1 h2=>(lo_bls hL2 h1 hW2s hSq).trans fun p hp=>h2.cell (Nat.lt_of_lt_of_le hp (Nat.le_trans hW2s h1.size))
  refine wpIn_block ?_
  refine wpIn_seq ?_
  refine region_go 6 ((12, .s (SF.ptr ((CU.agg (fPR (fPV (m) ((at_ ps k))) (fPV (m) ((at_ ps ((k+1) % ps.length)))))).cf.at 0)))::(13, .s ((fPV (m) ((at_ ps k))).toSF))::(14, .s (SF.ptr ((CU.agg (fPR (fPV (m) ((at_ ps k))) (fPV (m) ((at_ ps ((k+1) % ps.length)))))).cf.at 6)))::(15, .s ((fPV (m) ((at_ ps ((k+1) % ps.length)))).toSF))::(16, .s ((fPV (m) (p)).toSF))::(17, .u (UF.eq (.bool (onK ps p k)))):: []) hmix s (by kernel_rfl)
   (oc (ok_fld (C:=(CU.agg (fPR (fPV (m) ((at_ ps k))) (fPV (m) ((at_ ps ((k+1) % ps.length)))))).cf) 0 (by kernel_rfl))<|oc (ok_ldA (C:=(CU.agg (fPR (fPV (m) ((at_ ps k))) (fPV (m) ((at_ ps ((k+1) % ps.length)))))).cf) (k:=0) 6 (by kernel_rfl) (h:=pr_pt0))<|oc (ok_fld (C:=(CU.agg (fPR (fPV (m) ((at_ ps k))) (fPV (m) ((at_ ps ((k+1) % ps.length)))))).cf) 6 (by kernel_rfl))<|oc (ok_ldA (C:=(CU.agg (fPR (fPV (m) ((at_ ps k))) (fPV (m) ((at_ ps ((k+1) % ps.length)))))).cf) (k:=6) 6 (by kernel_rfl) (h:=pr_pt6))<|oc (ok_ldW (f:=fPV (m) (p)) 6 (by kernel_rfl) (hz:=pt_len _ _))<|oc (ok_call3 wide_wide en_121 (fun u0 u1 u2 W hb (h0:(fPV (m) ((at_ ps k))).p u0 W) (h1:(fPV (m) ((at_ ps ((k+1) % ps.length)))).p u1 W) (h2:(fPV (m) (p)).p u2 W)=>son_p h0 h1 h2 hm hm0 (tab_lo hT (hlo s.gr hb))))<|obs_nil) fun a w6 s=> ?_
  refine tail_end rfl ?_
  refine StS.cond s (onK ps p k) iiz (fun e=> ?_) (fun e=> ?_)
  ·refine wpIn_seq ?_
   refine region_go 1 ((18, .u (UF.eq (.int .i64 (((k:Nat):Int))))):: []) hmix s (by kernel_rfl)
    (oc ok_move<|obs_nil) fun a w7 s=> ?_
   refine t_storeP (c:=5) (o:=0) (kk:=1) (CU.isP (.int .i64 ((k:Nat):Int)) (onI ps p=((k:Nat):Int))) ((UF.eq (.int .i64 ((k:Nat):Int))).toSF) rfl s (by kernel_rfl) rfl rfl (fun _ _ h=>h.1) iiz (sp_int fun cs W h=>⟨by rw [h.1];rfl,firstI_at hk h.2 e⟩) fun a w s=> ?_
   refine tail_end rfl ?_
   refine wpIn_exit ?_
   replace s:=s.popB
   exact ⟨rfl,(s.keepK [] (fnz)).weakB 5 (CU.isP (.int .i64 (onI ps p)) True) rfl (nodup_of_B (by kernel_rfl)) (fun cs W h=>⟨by rw [h.1,h.2],trivial⟩)⟩
  ·refine wpIn_skip ?_
   replace s:=s.popB
   exact ⟨(s.keepK [] (fnz)).weakB 5 (CU.isP (.int .i64 (-1)) (noneK (onK ps p) (k+1))) rfl (nodup_of_B (by kernel_rfl)) (fun cs W h=>⟨h.1,noneK_next h.2 e⟩),fun h=>h.elim⟩
 ·have hans:onI ps p= -1:=by obtain ⟨_,_,h9,_⟩:=s.boxAt (c:=5) rfl;exact firstI_none h9.2
  generalize ({ a with defers:=mark D::a.defers }:Act)=a at s ⊢
  refine wpIn_seq ?_
  refine region_go 2 ((19, .s ((UF.eq (.int .i64 (-1))).toSF))::(4, .u (UF.eq (.int .i64 (-1)))):: []) hmix s (by kernel_rfl)
   (oc (ok_load1 (C:=(CU.isP (.int .i64 (-1)) (noneK (onK ps p) (nE ps))).cf) (by kernel_rfl) (fun _ _ h=>h.2) (isP_get))<|oc (ok_assign)<|obs_nil) fun a w8 s=> ?_
  refine tail_end rfl ?_
  refine wpIn_ret ?_
  exact s.resM1 (fI (onI ps p)) (t:=4) rfl (fun v W h=>by rw [hans];exact h)
 ·generalize ({ a with defers:=mark D::a.defers }:Act)=a at s ⊢
  refine wpIn_exit ?_
  refine wpIn_seq ?_
  refine region_go 2 ((19, .s ((UF.eq (.int .i64 (onI ps p))).toSF))::(4, .u (UF.eq (.int .i64 (onI ps p)))):: []) hmix s (by kernel_rfl)
   (oc (ok_load1 (C:=(CU.isP (.int .i64 (onI ps p)) (True)).cf) (by kernel_rfl) (fun _ _ h=>h.2) (isP_get))<|oc (ok_assign)<|obs_nil) fun a w9 s=> ?_
  refine tail_end rfl ?_
  refine wpIn_ret ?_
  exact s.resM1 (fI (onI ps p)) (t:=4) rfl (fun v W h=>h)
theorem icrossed_p {m:Nat} {W:World} {u l:Value} {p:V2} {ps:List V2} (h1:(fPV m p).p u W) (hl:(SF.row 6 (pvs m ps)).p l W) (hm:m≤159) (hm0:0<m) (hn:ps.length≤1000000) (hT:Tab W):Calls Tryz.prog 80 #[u,l] W (Ret W (fI ((crN ps p:Nat):Int)).toSF):=by
 refine run_stM [(fPV m p).toSF,(UF.eq l).toSF] Tryz.func80 rfl (by kernel_rfl) ⟨h1,rfl,trivial⟩ fun a s=> ?_
 replace s:=s.renew [(0, .u (fPV (m) (p))),(1, .u (UF.eq l))] (fmz ⟨.inr ⟨_,rfl, .head _⟩,fmz ⟨.inr ⟨_,rfl,mz1⟩,fnz⟩⟩)
 refine wpIn_seq ?_
 refine region_go 0 [] hmix s (by kernel_rfl)
  obs_nil fun a w1 s=> ?_
 refine t_box (CU.agg (fPV (m) (p))) rfl s (by kernel_rfl) (fun v W h=>pt_box h) fun b2 a w s=> ?_
 refine t_alloc (CU.isP (.int .i64 0) True) (cs:= [.int .i64 0]) (by kernel_rfl) rfl s (by kernel_rfl) (fun W=>⟨rfl,trivial⟩) rfl fun b4 a w s=> ?_
 refine tail_end rfl ?_
 refine wpIn_seq ?_
 refine wpIn_seq ?_
 have soc:=s.old
 have o4:b4<_:=soc _ (.head _)
 have o2:b2<_:=soc _ mz1
 refine region_goN 2 ((7, .s ((UF.eq l).toSF))::(8, .s (fClos w 153 22 (CU.is [l]))):: []) hmix s (by kernel_rfl)
  (oc ok_move<|oc (ok_call1 wide_wide en_120 (fun u0 W hb (h0:u0=l)=>by rw [show u0=l from h0];exact (iedges_p (row_plain hl)).mono (Ret.to (fClos_old hb.size))))<|obs_nil) fun a w2 s hr=> ?_
 refine tail_end rfl ?_
 refine wpIn_block ?_
 obtain ⟨bc,csc,ec,hbc,hhc,hcc,hnc⟩:=hr (_,_) mz1
 obtain rfl:csc= [l]:=hcc
 replace s:=(s.keepK [(1, .u (UF.eq l))] (fmz ⟨mz1,fnz⟩)).learn 8 _ ec
 replace s:StS noS W _ [⟨4,3,CU.isP (.int .i64 ((cntK (crK ps p) 0:Nat):Int)) True,b4,false⟩,⟨2,31,CU.agg (fPV (m) (p)),b2,false⟩] Tryz.f80.ntmps _ a w2:=s.weakB 4 (CU.isP (.int .i64 ((cntK (crK ps p) 0:Nat):Int)) True) rfl (nodup_of_B (by kernel_rfl)) (fun cs W h=>h)
 have hCn: ∀q,inB ([⟨4,3,CU.isP (.int .i64 ((cntK (crK ps p) 0:Nat):Int)) True,b4,false⟩,⟨2,31,CU.agg (fPV (m) (p)),b2,false⟩]) q→W.heap.size≤q:=fun q hq=>s.inB_new hq
 have hCl: ∀q,inB ([⟨4,3,CU.isP (.int .i64 ((cntK (crK ps p) 0:Nat):Int)) True,b4,false⟩,⟨2,31,CU.agg (fPV (m) (p)),b2,false⟩]) q→q<w2.heap.size:=fun q ⟨z9,hz9,e9,_⟩=>e9▸s.old z9 hz9
 refine st_range (N:=nE ps) (endless:=False) (fun k=> [⟨4,3,CU.isP (.int .i64 ((cntK (crK ps p) k:Nat):Int)) True,b4,false⟩,⟨2,31,CU.agg (fPV (m) (p)),b2,false⟩]) ([⟨4,3,CU.isP (.int .i64 0) False,b4,false⟩,⟨2,31,CU.agg (fPV (m) (p)),b2,false⟩]) (.exit 0) (fun k=> [(10, .u (fPR (fPV (m) ((at_ ps k))) (fPV (m) ((at_ ps ((k+1) % ps.length))))))]) s iiz (enters_of Tryz.func153 (by kernel_rfl) rfl) (iedges_it (w0:=W) hhc hl s.below hCl hCn (fun ⟨z9,hz9,e9,_⟩=>by simp only [List.mem_cons,List.not_mem_nil,or_false] at hz9;rcases hz9 with rfl|rfl<;>(simp only at e9;omega)) hn) (fun k=>rfl) ?_ rfl rfl rfl (fun k=>rfl) rfl (fun h=>h.elim) (fun l_ k xs WR hk so s=> ?_) (fun _ D WD s=> ?_) (fun D WD s=> ?_)
 ·intro k q hq
  obtain rfl:=List.mem_singleton.1 hq
  exact .inr ⟨1,_,rfl,rfl,rfl⟩
 ·have hLR:Lo W WR:=lo_below so.below
  have hWR:=so.gr.size
  have hSq: ∀q,(inB ([⟨4,3,CU.isP (.int .i64 ((cntK (crK ps p) 0:Nat):Int)) True,b4,false⟩,⟨2,31,CU.agg (fPV (m) (p)),b2,false⟩]) q∨WR.heap.size≤q)→W.heap.size≤q:=fun q hq=>by rcases hq with hq|hq;exact hCn q hq;omega
  generalize ({ tmps:=_,defers:= [] }:Act)=a at s ⊢
  refine region_go 0 [] hmix s (by kernel_rfl)
   obs_nil fun a w3 s=> ?_
  refine t_alloc (CU.len 12) (cs:= [.bool false, .slice none 0 0, .slice none 0 0, .bool false, .slice none 0 0, .slice none 0 0, .bool false, .slice none 0 0, .slice none 0 0, .bool false, .slice none 0 0, .slice none 0 0]) (by kernel_rfl) rfl s (by kernel_rfl) (fun W=>rfl) rfl fun b6 a w s=> ?_
  refine t_store (CU.agg (fPR (fPV (m) ((at_ ps k))) (fPV (m) ((at_ ps ((k+1) % ps.length)))))) ((fPR (fPV (m) ((at_ ps k))) (fPV (m) ((at_ ps ((k+1) % ps.length))))).toSF) rfl s (by kernel_rfl) rfl rfl rfl iiz iiz (pr_store) fun a w s=> ?_
  refine tail_end rfl ?_
  refine ⟨s.gr,fun W2 hcell hW2=> ?_⟩
  have hL2:Lo W W2:=(lo_bls hLR s.gr hWR hSq).trans fun p _=>hcell p
  obtain ⟨_,_,h9c,_⟩:=s.bx.mem _ (.head _)
  have hb9:W.heap.size≤b6:=by rcases h9c with h|h|h;cases h;exact Nat.le_trans hWR h;exact hSq _ h
  replace s:=hW2 _ _ s
  have h9l:b6<W2.heap.size:=s.old _ (.head _)
  have hW2s:W.heap.size≤W2.heap.size:=by omega
  have hlo: ∀{w w':World},BlS (fun q=>inB ([⟨4,3,CU.isP (.int .i64 ((cntK (crK ps p) 0:Nat):Int)) True,b4,false⟩,⟨2,31,CU.agg (fPV (m) (p)),b2,false⟩]) q∨WR.heap.size≤q) W2 w→Below w.heap.size w w'→Lo W w':=fun h1 h2=>(lo_bls hL2 h1 hW2s hSq).trans fun p hp=>h2.cell (Nat.lt_of_lt_of_le hp (Nat.le_trans hW2s h1.size))
  refine wpIn_block ?_
  refine wpIn_seq ?_
  refine region_go 3 ((11, .s ((fPR (fPV (m) ((at_ ps k))) (fPV (m) ((at_ ps ((k+1) % ps.length))))).toSF))::(12, .s ((fPV (m) (p)).toSF))::(13, .u (UF.eq (.bool (crK ps p k)))):: []) hmix s (by kernel_rfl)
   (oc (ok_ldW (f:=fPR (fPV (m) ((at_ ps k))) (fPV (m) ((at_ ps ((k+1) % ps.length))))) 12 (by kernel_rfl) (hz:=pr_len))<|oc (ok_ldW (f:=fPV (m) (p)) 6 (by kernel_rfl) (hz:=pt_len _ _))<|oc (ok_call2 wide_wide en_123 (fun u0 u1 W hb (h0:(fPR (fPV (m) ((at_ ps k))) (fPV (m) ((at_ ps ((k+1) % ps.length))))).p u0 W) (h1:(fPV (m) (p)).p u1 W)=>cross_p h0 h1 hm hm0 (tab_lo hT (hlo s.gr hb))))<|obs_nil) fun a w4 s=> ?_
  refine tail_end rfl ?_
  refine StS.cond s (crK ps p k) iiz (fun e=> ?_) (fun e=> ?_)
  ·refine region_go 2 ((14, .s ((UF.eq (.int .i64 (((cntK (crK ps p) k:Nat):Int)))).toSF))::(15, .u (UF.eq (.int .i64 (((cntK (crK ps p) (k+1):Nat):Int))))):: []) hmix s (by kernel_rfl)
    (oc (ok_load1 (C:=(CU.isP (.int .i64 (((cntK (crK ps p) k:Nat):Int))) (True)).cf) (by kernel_rfl) (fun _ _ h=>h.2) (isP_get))<|oc (ok_addI .i64 (((cntK (crK ps p) k:Nat):Int)) 1 ((cntK (crK ps p) (k+1):Nat):Int) iiz iiz (by rw [cntK_t e];exact wrap64 _ _ (by omega) (by have:=cntK_le (crK ps p) k;have:=nE_le ps;omega)))<|obs_nil) fun a w5 s=> ?_
   refine t_storeP (c:=4) (o:=0) (kk:=1) (CU.isP (.int .i64 ((cntK (crK ps p) (k+1):Nat):Int)) True) ((UF.eq (.int .i64 ((cntK (crK ps p) (k+1):Nat):Int))).toSF) rfl s (by kernel_rfl) rfl rfl (fun _ _ h=>h.1) iiz (sp_int fun cs W h=>⟨by rw [h.1];rfl,trivial⟩) fun a w s=> ?_
   refine tail_end rfl ?_
   replace s:=s.popB
   exact ⟨(s.keepK [] (fnz)).weakB 4 (CU.isP (.int .i64 ((cntK (crK ps p) (k+1):Nat):Int)) True) rfl (nodup_of_B (by kernel_rfl)) (fun cs W h=>h),fun h=>h.elim⟩
  ·refine wpIn_skip ?_
   replace s:=s.popB
   exact ⟨(s.keepK [] (fnz)).weakB 4 (CU.isP (.int .i64 ((cntK (crK ps p) (k+1):Nat):Int)) True) rfl (nodup_of_B (by kernel_rfl)) (fun cs W h=>by rw [cntK_f e];exact h),fun h=>h.elim⟩
 ·generalize ({ a with defers:=mark D::a.defers }:Act)=a at s ⊢
  refine wpIn_seq ?_
  refine region_go 1 ((16, .u (UF.eq (.int .i64 (((cntK (crK ps p) (nE ps):Nat):Int))))):: []) hmix s (by kernel_rfl)
   (oc (ok_load1 (C:=(CU.isP (.int .i64 (((cntK (crK ps p) (nE ps):Nat):Int))) (True)).cf) (by kernel_rfl) (fun _ _ h=>h.2) (isP_get))<|obs_nil) fun a w6 s=> ?_
  refine t_storeP (c:=4) (o:=0) (kk:=1) (CU.isP (.int .i64 ((crN ps p:Nat):Int)) True) ((UF.eq (.int .i64 ((crN ps p:Nat):Int))).toSF) rfl s (by kernel_rfl) rfl rfl (fun _ _ h=>h.1) iiz (sp_int fun cs W h=>⟨by rw [h.1];rfl,trivial⟩) fun a w s=> ?_
  refine tail_end rfl ?_
  refine wpIn_ret ?_
  exact s.resMP (.int .i64 ((crN ps p:Nat):Int)) rfl (by kernel_rfl) rfl rfl (fun cs W h=>h.1)
 ·obtain ⟨_,_,h9,_⟩:=s.boxAt (c:=4) rfl
  exact h9.2.elim
end Go.Proofs.Wd

namespace Go.Proofs.Wd
set_option maxRecDepth 100000
set_option maxHeartbeats 1000000
open Go.RowKit Lb
theorem whereV_on {ps:List V2} {p:V2} (h:decide (onI ps p≥0)=true):whereV ps p=0:=if_pos (of_decide_eq_true h)
theorem whereV_off {ps:List V2} {p:V2} (h:decide (onI ps p≥0)=false):whereV ps p=2*(((crN ps p % 2:Nat)):Int) - 1:=if_neg (of_decide_eq_false h)
theorem row_nil (z:Nat) (W:World):(SF.row z []).p (.slice none 0 0) W:=⟨none,0,rfl,Nat.le_refl _,by decide,fun _=>rfl,fun i C hi=>by simp at hi⟩
theorem iwhere_p {m:Nat} {W:World} {u l:Value} {p:V2} {ps:List V2} (h1:(fPV m p).p u W) (hl:(SF.row 6 (pvs m ps)).p l W) (hm:m≤159) (hm0:0<m) (hn:ps.length≤1000000) (hT:Tab W):Calls Tryz.prog 34 #[u,l] W (Ret W (fI (whereV ps p)).toSF):=by
 refine run_st [(fPV m p).toSF,(UF.eq l).toSF] Tryz.func34 rfl (by kernel_rfl) ⟨h1,rfl,trivial⟩ fun a s=> ?_
 replace s:=s.renew [(0, .u (fPV (m) (p))),(1, .u (UF.eq l))] (fmz ⟨.inr ⟨_,rfl, .head _⟩,fmz ⟨.inr ⟨_,rfl,mz1⟩,fnz⟩⟩)
 refine wpIn_seq ?_
 refine region_go 0 [] hmix s (by kernel_rfl)
  obs_nil fun a w1 s=> ?_
 refine t_box (CU.agg (fPV (m) (p))) rfl s (by kernel_rfl) (fun v W h=>pt_box h) fun b2 a w s=> ?_
 refine t_set (UF.eq (.int .i64 (0))) rfl s (by kernel_rfl) iiz fun a w s=> ?_
 refine tail_end rfl ?_
 refine wpIn_seq ?_
 refine wpIn_seq ?_
 refine region_go 4 ((5, .s ((fPV (m) (p)).toSF))::(6, .s ((UF.eq l).toSF))::(7, .s ((UF.eq (.int .i64 (onI ps p))).toSF))::(8, .u (UF.eq (.bool (decide (onI ps p≥0))))):: []) hmix s (by kernel_rfl)
  (oc (ok_ldW (f:=fPV (m) (p)) 6 (by kernel_rfl) (hz:=pt_len _ _))<|oc ok_move<|oc (ok_call2 wide_wide en_78 (fun u0 u1 W hb (h0:(fPV (m) (p)).p u0 W) (h1:u1=l)=>by rw [show u1=l from h1];exact ion_p h0 ((SF.row 6 (pvs m ps)).st _ _ _ hl (s.up hb)) hm hm0 hn (hT.below (s.up hb))))<|oc (ok_cmpI .i64 (onI ps p) (0) (decide (onI ps p≥0)) iiz iiz rfl rfl)<|obs_nil) fun a w2 s=> ?_
 refine tail_end rfl ?_
 refine StS.cond s (decide (onI ps p≥0)) iiz (fun e=> ?_) (fun e=> ?_)
 ·refine wpIn_seq ?_
  replace s:=s.drop [4]
  refine region_go 1 ((4, .u (UF.eq (.int .i64 (0)))):: []) hmix s (by kernel_rfl)
   (oc (ok_assign)<|obs_nil) fun a w3 s=> ?_
  refine tail_end rfl ?_
  refine wpIn_ret ?_
  exact StS.res1 s (t:=4) rfl (fun v W h=>by rw [whereV_on e];exact h)
 ·refine wpIn_skip ?_
  refine wpIn_seq ?_
  replace s:=s.drop [4]
  refine region_go 7 ((9, .s ((fPV (m) (p)).toSF))::(10, .s ((UF.eq l).toSF))::(11, .s ((UF.eq (.int .i64 (((crN ps p:Nat):Int)))).toSF))::(12, .s ((UF.eq (.int .i64 ((((crN ps p % 2:Nat)):Int)))).toSF))::(13, .s ((UF.eq (.int .i64 (2*(((crN ps p % 2:Nat)):Int)))).toSF))::(14, .s ((UF.eq (.int .i64 (2*(((crN ps p % 2:Nat)):Int) - 1))).toSF))::(4, .u (UF.eq (.int .i64 (2*(((crN ps p % 2:Nat)):Int) - 1)))):: []) hmix s (by kernel_rfl)
   (oc (ok_ldW (f:=fPV (m) (p)) 6 (by kernel_rfl) (hz:=pt_len _ _))<|oc ok_move<|oc (ok_call2 wide_wide en_80 (fun u0 u1 W hb (h0:(fPV (m) (p)).p u0 W) (h1:u1=l)=>by rw [show u1=l from h1];exact icrossed_p h0 ((SF.row 6 (pvs m ps)).st _ _ _ hl (s.up hb)) hm hm0 hn (hT.below (s.up hb))))<|oc (ok_and1 (crN ps p) (by have:=cntK_le (crK ps p) (nE ps);have:=nE_le ps;unfold crN;omega) iiz iiz)<|oc (ok_mulZ .i64 2 (((crN ps p % 2:Nat)):Int) (2*(((crN ps p % 2:Nat)):Int)) iiz iiz (by rw [IntKind.wrap_i64];omega))<|oc (ok_subI .i64 (2*(((crN ps p % 2:Nat)):Int)) 1 (2*(((crN ps p % 2:Nat)):Int) - 1) iiz iiz (by rw [IntKind.wrap_i64];omega))<|oc (ok_assign)<|obs_nil) fun a w4 s=> ?_
  refine tail_end rfl ?_
  refine wpIn_ret ?_
  exact StS.res1 s (t:=4) rfl (fun v W h=>by rw [whereV_off e];exact h)
theorem iholds1_p {m:Nat} {W:World} {u v l:Value} {p:V2} {ps:List V2} (h1:(fPV m p).p u W) (h2:(SF.ptr (CU.is [l]).cf).p v W) (hl:(SF.row 6 (pvs m ps)).p l W) (hm:m≤159) (hm0:0<m) (hn:ps.length≤1000000) (hT:Tab W):Calls Tryz.prog 83 #[u,v] W (Ret W (fB (decide (whereV ps p<0))).toSF):=by
 refine run_st [(fPV m p).toSF,SF.ptr (CU.is [l]).cf] Tryz.func83 rfl (by kernel_rfl) ⟨h1,h2,trivial⟩ fun a s=> ?_
 refine wpIn_seq ?_
 refine region_go 0 [] hmix s (by kernel_rfl)
  obs_nil fun a w1 s=> ?_
 refine t_box (CU.agg (fPV (m) (p))) rfl s (by kernel_rfl) (fun v W h=>pt_box h) fun b2 a w s=> ?_
 refine t_set (UF.eq (.bool false)) rfl s (by kernel_rfl) iiz fun a w s=> ?_
 refine tail_end rfl ?_
 refine wpIn_seq ?_
 replace s:=s.drop [3]
 refine region_go 5 ((4, .s ((fPV (m) (p)).toSF))::(5, .s ((UF.eq l).toSF))::(6, .s ((UF.eq (.int .i64 (whereV ps p))).toSF))::(7, .s ((UF.eq (.bool (decide (whereV ps p<0)))).toSF))::(3, .u (UF.eq (.bool (decide (whereV ps p<0))))):: []) hmix s (by kernel_rfl)
  (oc (ok_ldW (f:=fPV (m) (p)) 6 (by kernel_rfl) (hz:=pt_len _ _))<|oc (ok_load1 (C:=(CU.is [l]).cf) (by kernel_rfl) iiz (is_get))<|oc (ok_call2 wide_wide en_34 (fun u0 u1 W hb (h0:(fPV (m) (p)).p u0 W) (h1:u1=l)=>by rw [show u1=l from h1];exact iwhere_p h0 ((SF.row 6 (pvs m ps)).st _ _ _ hl (s.up hb)) hm hm0 hn (hT.below (s.up hb))))<|oc (ok_cmpI .i64 (whereV ps p) (0) (decide (whereV ps p<0)) iiz iiz rfl rfl)<|oc (ok_assign)<|obs_nil) fun a w2 s=> ?_
 refine tail_end rfl ?_
 refine wpIn_ret ?_
 exact StS.res1 s (t:=3) rfl iiz
theorem iholds_p {m:Nat} {W:World} {l q:Value} {ps qs:List V2} (hl:(SF.row 6 (pvs m ps)).p l W) (hq:(SF.row 6 (pvs m qs)).p q W) (hm:m≤159) (hm0:0<m) (hn:ps.length≤1000000) (hnq:qs.length≤1000000) (hT:Tab W):Calls Tryz.prog 36 #[l,q] W (Ret W (fB (!(qs.any (fun p=>decide (whereV ps p<0))))).toSF):=by
 have hlc:=row_plain hl
 refine run_st [(UF.eq l).toSF,SF.row 6 (pvs m qs)] Tryz.func36 rfl (by kernel_rfl) ⟨rfl,hq,trivial⟩ fun a s=> ?_
 refine wpIn_seq ?_
 refine region_go 0 [] hmix s (by kernel_rfl)
  obs_nil fun a w1 s=> ?_
 refine t_box (CU.is [l]) rfl s (by kernel_rfl) (fun v W h=>is_box h hlc.1 hlc.2) fun b2 a w s=> ?_
 refine t_set (UF.eq (.bool false)) rfl s (by kernel_rfl) iiz fun a w s=> ?_
 refine tail_end rfl ?_
 refine wpIn_seq ?_
 replace s:=s.drop [4]
 refine region_go 5 ((5, .s (SF.row 6 (pvs (m) (qs))))::(6, .s (SF.fn Tryz.prog (TB m (fun p=>decide (whereV ps p<0)))))::(7, .s ((UF.eq (.bool (qs.any (fun p=>decide (whereV ps p<0))))).toSF))::(8, .s ((UF.eq (.bool (!(qs.any (fun p=>decide (whereV ps p<0)))))).toSF))::(4, .u (UF.eq (.bool (!(qs.any (fun p=>decide (whereV ps p<0))))))):: []) hmix s (by kernel_rfl)
  (oc ok_move<|oc (ok_mkfn1 (fun u W hb (h:(SF.pb b2 (CU.is [l]).cf).p u W)=>fn_one (enters_of Tryz.func83 (by kernel_rfl) rfl) (fun W' hb' args R ⟨u1,p,e,h1,hR⟩=>by subst e hR;simpa using iholds1_p h1 ((SF.ptr _).st _ _ _ h.2 hb') ((SF.row 6 _).st _ _ _ ((SF.row 6 _).st _ _ _ hl (s.up hb)) hb') hm hm0 hn ((hT.below (s.up hb)).below hb'))))<|oc (ok_call2 wide_wide en_81 (fun u0 u1 W hb (h0:(SF.row 6 (pvs (m) (qs))).p u0 W) (h1:(SF.fn Tryz.prog (TB m (fun p=>decide (whereV ps p<0)))).p u1 W)=>cf_p h0 h1 hnq))<|oc (ok_not (qs.any (fun p=>decide (whereV ps p<0))) iiz (fun _=>rfl))<|oc (ok_assign)<|obs_nil) fun a w2 s=> ?_
 refine tail_end rfl ?_
 refine wpIn_ret ?_
 exact StS.res1 s (t:=4) rfl iiz
theorem istrictly1_p {m:Nat} {W:World} {u v l:Value} {p:V2} {ps:List V2} (h1:(fPV m p).p u W) (h2:(SF.ptr (CU.is [l]).cf).p v W) (hl:(SF.row 6 (pvs m ps)).p l W) (hm:m≤159) (hm0:0<m) (hn:ps.length≤1000000) (hT:Tab W):Calls Tryz.prog 82 #[u,v] W (Ret W (fB (whereV ps p !=1)).toSF):=by
 refine run_st [(fPV m p).toSF,SF.ptr (CU.is [l]).cf] Tryz.func82 rfl (by kernel_rfl) ⟨h1,h2,trivial⟩ fun a s=> ?_
 refine wpIn_seq ?_
 refine region_go 0 [] hmix s (by kernel_rfl)
  obs_nil fun a w1 s=> ?_
 refine t_box (CU.agg (fPV (m) (p))) rfl s (by kernel_rfl) (fun v W h=>pt_box h) fun b2 a w s=> ?_
 refine t_set (UF.eq (.bool false)) rfl s (by kernel_rfl) iiz fun a w s=> ?_
 refine tail_end rfl ?_
 refine wpIn_seq ?_
 replace s:=s.drop [3]
 refine region_go 5 ((4, .s ((fPV (m) (p)).toSF))::(5, .s ((UF.eq l).toSF))::(6, .s ((UF.eq (.int .i64 (whereV ps p))).toSF))::(7, .s ((UF.eq (.bool (whereV ps p !=1))).toSF))::(3, .u (UF.eq (.bool (whereV ps p !=1)))):: []) hmix s (by kernel_rfl)
  (oc (ok_ldW (f:=fPV (m) (p)) 6 (by kernel_rfl) (hz:=pt_len _ _))<|oc (ok_load1 (C:=(CU.is [l]).cf) (by kernel_rfl) iiz (is_get))<|oc (ok_call2 wide_wide en_34 (fun u0 u1 W hb (h0:(fPV (m) (p)).p u0 W) (h1:u1=l)=>by rw [show u1=l from h1];exact iwhere_p h0 ((SF.row 6 (pvs m ps)).st _ _ _ hl (s.up hb)) hm hm0 hn (hT.below (s.up hb))))<|oc (ok_cmpI .i64 (whereV ps p) (1) (whereV ps p !=1) iiz iiz rfl rfl)<|oc (ok_assign)<|obs_nil) fun a w2 s=> ?_
 refine tail_end rfl ?_
 refine wpIn_ret ?_
 exact StS.res1 s (t:=3) rfl iiz
theorem istrictly_p {m:Nat} {W:World} {l q:Value} {ps qs:List V2} (hl:(SF.row 6 (pvs m ps)).p l W) (hq:(SF.row 6 (pvs m qs)).p q W) (hm:m≤159) (hm0:0<m) (hn:ps.length≤1000000) (hnq:qs.length≤1000000) (hT:Tab W):Calls Tryz.prog 35 #[l,q] W (Ret W (fB (!(qs.any (fun p=>whereV ps p !=1)))).toSF):=by
 have hlc:=row_plain hl
 refine run_st [(UF.eq l).toSF,SF.row 6 (pvs m qs)] Tryz.func35 rfl (by kernel_rfl) ⟨rfl,hq,trivial⟩ fun a s=> ?_
 refine wpIn_seq ?_
 refine region_go 0 [] hmix s (by kernel_rfl)
  obs_nil fun a w1 s=> ?_
 refine t_box (CU.is [l]) rfl s (by kernel_rfl) (fun v W h=>is_box h hlc.1 hlc.2) fun b2 a w s=> ?_
 refine t_set (UF.eq (.bool false)) rfl s (by kernel_rfl) iiz fun a w s=> ?_
 refine tail_end rfl ?_
 refine wpIn_seq ?_
 replace s:=s.drop [4]
 refine region_go 5 ((5, .s (SF.row 6 (pvs (m) (qs))))::(6, .s (SF.fn Tryz.prog (TB m (fun p=>whereV ps p !=1))))::(7, .s ((UF.eq (.bool (qs.any (fun p=>whereV ps p !=1)))).toSF))::(8, .s ((UF.eq (.bool (!(qs.any (fun p=>whereV ps p !=1))))).toSF))::(4, .u (UF.eq (.bool (!(qs.any (fun p=>whereV ps p !=1)))))):: []) hmix s (by kernel_rfl)
  (oc ok_move<|oc (ok_mkfn1 (fun u W hb (h:(SF.pb b2 (CU.is [l]).cf).p u W)=>fn_one (enters_of Tryz.func82 (by kernel_rfl) rfl) (fun W' hb' args R ⟨u1,p,e,h1,hR⟩=>by subst e hR;simpa using istrictly1_p h1 ((SF.ptr _).st _ _ _ h.2 hb') ((SF.row 6 _).st _ _ _ ((SF.row 6 _).st _ _ _ hl (s.up hb)) hb') hm hm0 hn ((hT.below (s.up hb)).below hb'))))<|oc (ok_call2 wide_wide en_81 (fun u0 u1 W hb (h0:(SF.row 6 (pvs (m) (qs))).p u0 W) (h1:(SF.fn Tryz.prog (TB m (fun p=>whereV ps p !=1))).p u1 W)=>cf_p h0 h1 hnq))<|oc (ok_not (qs.any (fun p=>whereV ps p !=1)) iiz (fun _=>rfl))<|oc (ok_assign)<|obs_nil) fun a w2 s=> ?_
 refine tail_end rfl ?_
 refine wpIn_ret ?_
 exact StS.res1 s (t:=4) rfl iiz
end Go.Proofs.Wd

namespace Go.Proofs.Wd
set_option maxRecDepth 100000
set_option maxHeartbeats 1000000
open Go.RowKit Lb
def glen (L:List PX) (k:Nat):Nat:=((L.take k).map fun x=>min (PX.b x) 1000).sum
theorem glen_succ {L:List PX} {k:Nat} {x:PX} (h:L[k]?=some x):glen L (k+1)=glen L k+min (PX.b x) 1000:=by
 unfold glen
 rw [List.take_add_one,h]
 simp
theorem glen_le (L:List PX) (k:Nat):glen L k≤1000*k:=by
 induction k with
 |zero=>simp [glen]
 | succ k ih=>
  cases h:L[k]? with
  |none=>
   have:glen L (k+1)=glen L k:=by unfold glen;rw [List.take_add_one,h];simp
   omega
  |some x=>
   rw [glen_succ h]
   omega
theorem glen_mem {L:List PX} {k i:Nat} {x:PX} (h:L[i]?=some x) (hi:i<k):min (PX.b x) 1000≤glen L k:=by
 induction k with
 |zero=>omega
 | succ k ih=>
  by_cases e:i=k
  ·subst e;rw [glen_succ h];omega
  ·have h1:=ih (by omega)
   cases h2:L[k]? with
   |none=>
    have:glen L (k+1)=glen L k:=by unfold glen;rw [List.take_add_one,h2];simp
    omega
   |some y=>rw [glen_succ h2];omega
def g13 (L:List PX):Bool:=decide ((((pxs L).length:Nat):Int)>20)||decide (((glen L (min (pxs L).length 21):Nat):Int)>80)
theorem g13_f {L:List PX} (h:g13 L=false):L.length≤20∧ ∀x,x∈L→PX.b x≤80:=by
 unfold g13 at h
 rw [Bool.or_eq_false_iff] at h
 have h1:=of_decide_eq_false h.1
 have h2:=of_decide_eq_false h.2
 rw [List.length_map] at h1 h2
 refine ⟨by omega,fun x hx=> ?_⟩
 obtain ⟨i,hi⟩:=List.getElem?_of_mem hx
 have hlt:=(List.getElem?_eq_some_iff.1 hi).1
 have h3:=glen_mem hi (k:=min L.length 21) (by omega)
 omega
theorem px_pv80 {x:PX} (h:PX.b x≤80) {v:Value} {W:World} (hv:x.u.p v W):(fPV 80 x.p).p v W:=by
 unfold PX.b at h
 exact pt_weak (fun v W h'=>rv_x h' (by omega) (by omega)) (fun v W h'=>rv_x h' (by omega) (by omega)) hv
theorem pxs_pvs80 {L:List PX} (h: ∀x,x∈L→PX.b x≤80) (v:Value) (W:World) (hv:(SF.row 6 (pxs L)).p v W):(SF.row 6 (pvs 80 (pps L))).p v W:=
 row_imp (by simp) (fun i C D hC hD cs W hh=>by
  have hi:i<L.length:=by have:=(List.getElem?_eq_some_iff.1 hC).1;simpa using this
  rw [List.getElem?_map,List.getElem?_eq_getElem hi] at hC
  rw [List.getElem?_map,List.getElem?_map,List.getElem?_eq_getElem hi] at hD
  cases hC;cases hD
  exact px_pv80 (h _ (List.getElem_mem hi)) hh) v W hv
theorem r13great_p {L:List PX} {W:World} {v:Value} (hl:(SF.row 6 (pxs L)).p v W) (hL: ∀x,x∈L→PX.b x≤1048576):Calls Tryz.prog 29 #[v] W (Ret W (fB (g13 L)).toSF):=by
 refine run_st [SF.row 6 (pxs L)] Tryz.func29 rfl (by kernel_rfl) ⟨hl,trivial⟩ fun a s=> ?_
 refine wpIn_seq ?_
 refine region_go 1 ((2, .u (UF.eq (.bool false))):: []) hmix s (by kernel_rfl)
  (oc (ok_assign)<|obs_nil) fun a w1 s=> ?_
 refine tail_end rfl ?_
 refine wpIn_seq ?_
 refine region_go 1 ((3, .u (UF.eq (.int .i64 (0)))):: []) hmix s (by kernel_rfl)
  (oc (ok_assign)<|obs_nil) fun a w2 s=> ?_
 refine tail_end rfl ?_
 refine wpIn_seq ?_
 refine wpIn_seq ?_
 refine region_go 1 ((4, .u (UF.eq (.int .i64 (0)))):: []) hmix s (by kernel_rfl)
  (oc (ok_assign)<|obs_nil) fun a w3 s=> ?_
 refine tail_end rfl ?_
 refine wpIn_block ?_
 refine st_loop (min (pxs L).length 21) 4 (fun k=> [(0, .o (SF.row 6 (pxs L))),(4, .u (UF.eq (.int .i64 (((k:Nat):Int))))),(3, .u (UF.eq (.int .i64 (((glen L (k):Nat):Int)))))]) (fun k=>mz1) (s.keepK _ (fmz ⟨mz3,fmz ⟨.head _,fmz ⟨mz1,fnz⟩⟩⟩)) fun k a w hk s=> ?_
 refine wpIn_seq ?_
 refine wpIn_seq ?_
 refine region_go 8 ((5, .s ((UF.eq (.int .i64 (((k:Nat):Int)))).toSF))::(6, .s (SF.row 6 (pxs L)))::(7, .s ((UF.eq (.int .i64 ((((pxs L).length:Nat):Int)))).toSF))::(8, .s ((UF.eq (.bool (decide (((k:Nat):Int)<(((pxs L).length:Nat):Int))))).toSF))::(9, .s ((UF.eq (.bool (decide (((k:Nat):Int)<(((pxs L).length:Nat):Int))))).toSF))::(10, .s (SF.imp ((decide (((k:Nat):Int)<(((pxs L).length:Nat):Int)))=true) ((UF.eq (.int .i64 (((k:Nat):Int)))).toSF)))::(11, .s (SF.imp ((decide (((k:Nat):Int)<(((pxs L).length:Nat):Int)))=true) ((UF.eq (.bool (decide (((k:Nat):Int)≤20)))).toSF)))::(12, .u (UF.eq (.bool ((decide (((k:Nat):Int)<(((pxs L).length:Nat):Int)))&&(decide (((k:Nat):Int)≤20)))))):: []) hmix s (by kernel_rfl)
  (oc ok_move<|oc ok_move<|oc (ok_lenR (z:=6) (Cs:=pxs L) (by kernel_rfl) iiz (fun _=>rfl))<|oc (ok_cmpI .i64 (((k:Nat):Int)) ((((pxs L).length:Nat):Int)) (decide (((k:Nat):Int)<(((pxs L).length:Nat):Int))) iiz iiz rfl rfl)<|oc ok_move<|oc (ok_guard 9 (decide (((k:Nat):Int)<(((pxs L).length:Nat):Int))) (by kernel_rfl) iiz (fun e=>gd_imp [] ((UF.eq (.int .i64 (((k:Nat):Int)))).toSF) (fnz) (fun _ _ h _=>h) (by kernel_rfl) (ok_move)) (fun e W h=>absurd h e))<|oc (ok_guard 9 (decide (((k:Nat):Int)<(((pxs L).length:Nat):Int))) (by kernel_rfl) iiz (fun e=>gd_imp [(10,(UF.eq (.int .i64 (((k:Nat):Int)))).toSF)] ((UF.eq (.bool (decide (((k:Nat):Int)≤20)))).toSF) (fmz ⟨fun v W h=>imp_app (c:=(decide (((k:Nat):Int)<(((pxs L).length:Nat):Int)))=true) (f:=(UF.eq (.int .i64 (((k:Nat):Int)))).toSF) e h,fnz⟩) (fun _ _ h _=>h) (by kernel_rfl) (ok_cmpI .i64 (((k:Nat):Int)) (20) (decide (((k:Nat):Int)≤20)) iiz iiz rfl rfl)) (fun e W h=>absurd h e))<|oc (ok_pick (decide (((k:Nat):Int)<(((pxs L).length:Nat):Int))) iiz (fun e v W h=>pick_and (imp_app e h) e) (fun e v W h=>pick_and' h e))<|obs_nil) fun a w4 s=> ?_
 refine tail_end rfl ?_
 refine StS.cond s ((decide (((k:Nat):Int)<(((pxs L).length:Nat):Int)))&&(decide (((k:Nat):Int)≤20))) iiz (fun e=> ?_) (fun e=> ?_)
 ·rw [Bool.and_eq_true] at e
  have hk1:=of_decide_eq_true e.1
  have hk2:=of_decide_eq_true e.2
  have hk3:k<L.length:=by rw [List.length_map] at hk1;omega
  obtain ⟨x,hxl⟩: ∃x,L[k]?=some x:=⟨_,List.getElem?_eq_getElem hk3⟩
  have hx:(pxs L)[k]?=some (PX.cu x):=by rw [List.getElem?_map,hxl];rfl
  have hxm:=hL x (List.mem_of_getElem? hxl)
  have hgs:=glen_succ hxl
  have hgl:=glen_le L k
  unfold PX.b at hxm hgs
  refine wpIn_skip ?_
  refine wpIn_seq ?_
  refine wpIn_block ?_
  refine region_goPS (K:= [(12, .u (UF.eq (.bool ((decide (((k:Nat):Int)<(((pxs L).length:Nat):Int)))&&(decide (((k:Nat):Int)≤20)))))),(0, .o (SF.row 6 (pxs L))),(4, .u (UF.eq (.int .i64 (((k:Nat):Int)))))]) [(3, .u (UF.eq (.int .i64 (((glen L (k):Nat):Int)))))] [0,1,2,9,10,17,18,26,27] 36 ((15, .s ((UF.eq (.int .i64 (((glen L (k):Nat):Int)))).toSF))::(16, .s (SF.row 6 (pxs L)))::(17, .s ((UF.eq (.int .i64 (((k:Nat):Int)))).toSF))::(18, .s (SF.ptr (PX.cu x).cf))::(19, .s (SF.ptr ((PX.cu x).cf.at 0)))::(20, .s (SF.ptr ((PX.cu x).cf.at 0)))::(21, .s (SF.ptr ((PX.cu x).cf.at 1)))::(22, .s ((fSl (x.1.n)).toSF))::(23, .s ((UF.eq (.int .i64 (((x.1.n:Nat):Int)))).toSF))::(24, .s (SF.row 6 (pxs L)))::(25, .s ((UF.eq (.int .i64 (((k:Nat):Int)))).toSF))::(26, .s (SF.ptr (PX.cu x).cf))::(27, .s (SF.ptr ((PX.cu x).cf.at 0)))::(28, .s (SF.ptr ((PX.cu x).cf.at 2)))::(29, .s ((fSl (x.1.n')).toSF))::(30, .s ((UF.eq (.int .i64 (((x.1.n':Nat):Int)))).toSF))::(31, .s ((UF.eq (.int .i64 (((x.1.n+x.1.n':Nat):Int)))).toSF))::(32, .s (SF.row 6 (pxs L)))::(33, .s ((UF.eq (.int .i64 (((k:Nat):Int)))).toSF))::(34, .s (SF.ptr (PX.cu x).cf))::(35, .s (SF.ptr ((PX.cu x).cf.at 3)))::(36, .s (SF.ptr ((PX.cu x).cf.at 3)))::(37, .s (SF.ptr ((PX.cu x).cf.at 4)))::(38, .s ((fSl (x.2.n)).toSF))::(39, .s ((UF.eq (.int .i64 (((x.2.n:Nat):Int)))).toSF))::(40, .s ((UF.eq (.int .i64 (((x.1.n+x.1.n'+x.2.n:Nat):Int)))).toSF))::(41, .s (SF.row 6 (pxs L)))::(42, .s ((UF.eq (.int .i64 (((k:Nat):Int)))).toSF))::(43, .s (SF.ptr (PX.cu x).cf))::(44, .s (SF.ptr ((PX.cu x).cf.at 3)))::(45, .s (SF.ptr ((PX.cu x).cf.at 5)))::(46, .s ((fSl (x.2.n')).toSF))::(47, .s ((UF.eq (.int .i64 (((x.2.n':Nat):Int)))).toSF))::(48, .s ((UF.eq (.int .i64 (((x.1.n+x.1.n'+x.2.n+x.2.n':Nat):Int)))).toSF))::(49, .s ((UF.eq (.int .i64 (min (((x.1.n+x.1.n'+x.2.n+x.2.n':Nat):Int)) (1000)))).toSF))::(50, .u (UF.eq (.int .i64 (((glen L (k+1):Nat):Int))))):: []) hmix (s.keepK _ (fmz ⟨mz3,fmz ⟨.head _,fmz ⟨mz1,fmz ⟨mz2,fnz⟩⟩⟩⟩)) (by kernel_rfl)
   (oc ok_move<|oc ok_move<|oc ok_move<|oc (ok_index (z:=6) (Cs:=pxs L) (i:=k) (C:=PX.cu x) (by kernel_rfl) hx iiz iiz)<|oc (ok_fld (C:=(PX.cu x).cf) 0 (by kernel_rfl))<|oc (ok_fldn (C:=(PX.cu x).cf) 0 0 (by kernel_rfl))<|oc (ok_fldn (C:=(PX.cu x).cf) 0 1 (by kernel_rfl))<|oc (ok_ld (C:=(PX.cu x).cf) (k:=1) (by kernel_rfl) (h:=pqx1))<|oc (ok_len (by kernel_rfl) (fun v W ⟨A,c,e⟩=>⟨A,x.1.n,c,e,rfl⟩))<|oc ok_move<|oc ok_move<|oc (ok_index (z:=6) (Cs:=pxs L) (i:=k) (C:=PX.cu x) (by kernel_rfl) hx iiz iiz)<|oc (ok_fld (C:=(PX.cu x).cf) 0 (by kernel_rfl))<|oc (ok_fldn (C:=(PX.cu x).cf) 0 2 (by kernel_rfl))<|oc (ok_ld (C:=(PX.cu x).cf) (k:=2) (by kernel_rfl) (h:=pqx2))<|oc (ok_len (by kernel_rfl) (fun v W ⟨A,c,e⟩=>⟨A,x.1.n',c,e,rfl⟩))<|oc (ok_addI .i64 (((x.1.n:Nat):Int)) (((x.1.n':Nat):Int)) (((x.1.n+x.1.n':Nat):Int)) iiz iiz (wrap64 _ _ (by omega) (by omega)))<|oc ok_move<|oc ok_move<|oc (ok_index (z:=6) (Cs:=pxs L) (i:=k) (C:=PX.cu x) (by kernel_rfl) hx iiz iiz)<|oc (ok_fld (C:=(PX.cu x).cf) 3 (by kernel_rfl))<|oc (ok_fldn (C:=(PX.cu x).cf) 3 0 (by kernel_rfl))<|oc (ok_fldn (C:=(PX.cu x).cf) 3 1 (by kernel_rfl))<|oc (ok_ld (C:=(PX.cu x).cf) (k:=4) (by kernel_rfl) (h:=pqx4))<|oc (ok_len (by kernel_rfl) (fun v W ⟨A,c,e⟩=>⟨A,x.2.n,c,e,rfl⟩))<|oc (ok_addI .i64 (((x.1.n+x.1.n':Nat):Int)) (((x.2.n:Nat):Int)) (((x.1.n+x.1.n'+x.2.n:Nat):Int)) iiz iiz (wrap64 _ _ (by omega) (by omega)))<|oc ok_move<|oc ok_move<|oc (ok_index (z:=6) (Cs:=pxs L) (i:=k) (C:=PX.cu x) (by kernel_rfl) hx iiz iiz)<|oc (ok_fld (C:=(PX.cu x).cf) 3 (by kernel_rfl))<|oc (ok_fldn (C:=(PX.cu x).cf) 3 2 (by kernel_rfl))<|oc (ok_ld (C:=(PX.cu x).cf) (k:=5) (by kernel_rfl) (h:=pqx5))<|oc (ok_len (by kernel_rfl) (fun v W ⟨A,c,e⟩=>⟨A,x.2.n',c,e,rfl⟩))<|oc (ok_addI .i64 (((x.1.n+x.1.n'+x.2.n:Nat):Int)) (((x.2.n':Nat):Int)) (((x.1.n+x.1.n'+x.2.n+x.2.n':Nat):Int)) iiz iiz (wrap64 _ _ (by omega) (by omega)))<|oc (ok_minI (((x.1.n+x.1.n'+x.2.n+x.2.n':Nat):Int)) (1000) iiz iiz)<|oc (ok_addI .i64 (((glen L (k):Nat):Int)) (min (((x.1.n+x.1.n'+x.2.n+x.2.n':Nat):Int)) (1000)) (((glen L (k+1):Nat):Int)) iiz iiz (wrap64 _ _ (by omega) (by omega)))<|obs_nil) fun Q' hQ a w5 s=> ?_
  refine t_set (UF.eq (.int .i64 (((glen L (k+1):Nat):Int)))) rfl s (by kernel_rfl) iiz fun a w s=> ?_
  refine tail_end rfl (hQ _ _ ?_)
  refine region_goS 2 ((13, .s ((UF.eq (.int .i64 (((k:Nat):Int)))).toSF))::(14, .u (UF.eq (.int .i64 (((k+1:Nat):Int))))):: []) s (by kernel_rfl)
   (oc ok_move<|oc (ok_addI .i64 (((k:Nat):Int)) (1) (((k+1:Nat):Int)) iiz iiz (wrap64 _ _ (by omega) (by omega)))<|obs_nil) fun a w6 s=> ?_
  replace s:=s.drop [4]
  refine t_set (UF.eq (.int .i64 (((k+1:Nat):Int)))) rfl s (by kernel_rfl) iiz fun a w s=> ?_
  refine tail_end rfl ?_
  exact ⟨by omega,s.keepK _ (fmz ⟨mz5,fmz ⟨.head _,fmz ⟨mz2,fnz⟩⟩⟩)⟩
 ·rw [Bool.and_eq_false_iff] at e
  have hkN:k=min (pxs L).length 21:=by
   rcases e with e|e
   ·have:=of_decide_eq_false e;omega
   ·have:=of_decide_eq_false e;omega
  refine wpIn_exit ?_
  refine wpIn_seq ?_
  refine region_go 8 ((51, .s (SF.row 6 (pxs L)))::(52, .s ((UF.eq (.int .i64 ((((pxs L).length:Nat):Int)))).toSF))::(53, .s ((UF.eq (.bool (decide ((((pxs L).length:Nat):Int)>20)))).toSF))::(54, .s ((UF.eq (.bool (decide ((((pxs L).length:Nat):Int)>20)))).toSF))::(55, .s (SF.imp ((decide ((((pxs L).length:Nat):Int)>20))=false) ((UF.eq (.int .i64 (((glen L (k):Nat):Int)))).toSF)))::(56, .s (SF.imp ((decide ((((pxs L).length:Nat):Int)>20))=false) ((UF.eq (.bool (decide (((glen L (k):Nat):Int)>80)))).toSF)))::(57, .s ((UF.eq (.bool ((decide ((((pxs L).length:Nat):Int)>20))||(decide (((glen L (k):Nat):Int)>80))))).toSF))::(2, .u (UF.eq (.bool ((decide ((((pxs L).length:Nat):Int)>20))||(decide (((glen L (k):Nat):Int)>80)))))):: []) hmix s (by kernel_rfl)
   (oc ok_move<|oc (ok_lenR (z:=6) (Cs:=pxs L) (by kernel_rfl) iiz (fun _=>rfl))<|oc (ok_cmpI .i64 ((((pxs L).length:Nat):Int)) (20) (decide ((((pxs L).length:Nat):Int)>20)) iiz iiz rfl rfl)<|oc ok_move<|oc (ok_guard 54 (decide ((((pxs L).length:Nat):Int)>20)) (by kernel_rfl) iiz (fun e=>gd_imp [] ((UF.eq (.int .i64 (((glen L (k):Nat):Int)))).toSF) (fnz) (fun _ _ h _=>h) (by kernel_rfl) (ok_move)) (fun e W h=>absurd h e))<|oc (ok_guard 54 (decide ((((pxs L).length:Nat):Int)>20)) (by kernel_rfl) iiz (fun e=>gd_imp [(55,(UF.eq (.int .i64 (((glen L (k):Nat):Int)))).toSF)] ((UF.eq (.bool (decide (((glen L (k):Nat):Int)>80)))).toSF) (fmz ⟨fun v W h=>imp_app (c:=(decide ((((pxs L).length:Nat):Int)>20))=false) (f:=(UF.eq (.int .i64 (((glen L (k):Nat):Int)))).toSF) e h,fnz⟩) (fun _ _ h _=>h) (by kernel_rfl) (ok_cmpI .i64 (((glen L (k):Nat):Int)) (80) (decide (((glen L (k):Nat):Int)>80)) iiz iiz rfl rfl)) (fun e W h=>absurd h e))<|oc (ok_pick (decide ((((pxs L).length:Nat):Int)>20)) iiz (fun e v W h=>pick_or h e) (fun e v W h=>pick_or' (imp_app e h) e))<|oc (ok_assign)<|obs_nil) fun a w7 s=> ?_
  refine tail_end rfl ?_
  refine wpIn_ret ?_
  exact StS.res1 s (t:=2) rfl (fun _ _ h=>by rw [hkN] at h;exact h)
end Go.Proofs.Wd

namespace Go.Proofs.Wd
set_option maxRecDepth 100000
set_option maxHeartbeats 1000000
open Go.RowKit Lb
abbrev T3L:List V2:= [(((0:Int):Rat),((0:Int):Rat)),(((2:Int):Rat),((0:Int):Rat)),(((0:Int):Rat),((2:Int):Rat))]
abbrev hlf (x:Int):Rat:=((x:Rat)+((0:Int):Rat)) / 2
theorem qb_hlf:QB (hlf 1) 1:=⟨by unfold Bd BB;decide+kernel,by unfold BB;decide+kernel⟩
theorem t3_qb: ∀p,p∈T3L→QB p.1 1∧QB p.2 1:=fun p hp=>by
 have h0:=qbz (z:=0) (by decide)
 have h2:=qbz (z:=2) (by decide)
 simp only [List.mem_cons,List.not_mem_nil,or_false] at hp
 rcases hp with rfl|rfl|rfl
 ·exact ⟨h0,h0⟩
 ·exact ⟨h2,h0⟩
 ·exact ⟨h0,h2⟩
theorem tw1:whereV T3L (((1:Int):Rat),((0:Int):Rat))=0:=by kernel_rfl
theorem tw2:onI T3L (((1:Int):Rat),((0:Int):Rat))=0:=by kernel_rfl
theorem tw3:whereV T3L (hlf 1,hlf 1)=1:=by kernel_rfl
theorem tw4:whereV T3L (((2:Int):Rat),((2:Int):Rat))= -1:=by kernel_rfl
theorem tw5:(!(T3L.any (fun p=>decide (whereV T3L p<0))))=true:=by kernel_rfl
theorem tw6:(!([at_ T3L 0].any (fun p=>whereV T3L p !=1)))=false:=by kernel_rfl
theorem tw7:crN T3L (hlf 1,hlf 1)=1:=by kernel_rfl
theorem three_p {W:World}:Calls Tryz.prog 77 #[] W (Ret W (SF.row 6 (pns T3L))):=by
 refine run_st [] Tryz.func77 rfl (by kernel_rfl) trivial fun a s=> ?_
 refine wpIn_seq ?_
 refine region_go 1 ((0, .u (UF.eq (.slice none 0 0))):: []) hmix s (by kernel_rfl)
  (oc (ok_assign)<|obs_nil) fun a w1 s=> ?_
 refine tail_end rfl ?_
 refine wpIn_seq ?_
 replace s:=s.drop [0]
 refine region_goN 5 ((1, .s ((fPN (((((0):Int):Rat),(((0):Int):Rat)))).toSF))::(2, .s ((fPN (((((2):Int):Rat),(((0):Int):Rat)))).toSF))::(3, .s ((fPN (((((0):Int):Rat),(((2):Int):Rat)))).toSF))::(4, .s (SF.row 6 [CU.agg (fPN (((((0):Int):Rat),(((0):Int):Rat)))),CU.agg (fPN (((((2):Int):Rat),(((0):Int):Rat)))),CU.agg (fPN (((((0):Int):Rat),(((2):Int):Rat))))]))::(0, .s (SF.row 6 [CU.agg (fPN (((((0):Int):Rat),(((0):Int):Rat)))),CU.agg (fPN (((((2):Int):Rat),(((0):Int):Rat)))),CU.agg (fPN (((((0):Int):Rat),(((2):Int):Rat))))])):: []) hmix s (by kernel_rfl)
  (oc (ok_call2 wide_wide en_25 (fun u0 u1 W hb (h0:u0= .int .i64 (0)) (h1:u1= .int .i64 (0))=>r8of_p h0 h1 (by decide) (by decide)))<|oc (ok_call2 wide_wide en_25 (fun u0 u1 W hb (h0:u0= .int .i64 (2)) (h1:u1= .int .i64 (0))=>r8of_p h0 h1 (by decide) (by decide)))<|oc (ok_call2 wide_wide en_25 (fun u0 u1 W hb (h0:u0= .int .i64 (0)) (h1:u1= .int .i64 (2))=>r8of_p h0 h1 (by decide) (by decide)))<|oc (ok_slice3 (fun u v q W (hu:(fPN (((((0):Int):Rat),(((0):Int):Rat)))).p u W) (hv:(fPN (((((2):Int):Rat),(((0):Int):Rat)))).p v W) (hq:(fPN (((((0):Int):Rat),(((2):Int):Rat)))).p q W)=>sl_pt3 hu hv hq))<|oc (ok_assign)<|obs_nil) fun a w2 s hr=> ?_
 refine tail_end rfl ?_
 refine wpIn_ret ?_
 exact StS.resN s (Below.refl _ _) (t:=0) rfl (hr (_,_) mz4)
theorem halved_q {W:World} {u:Value} {x:Int} (hu:u= .int .i64 x) (hx1:x.natAbs<100):Calls Tryz.prog 122 #[u] W (Ret W (fQN (hlf x)).toSF):=by
 have hx: -9223372036854775808≤x∧x≤9223372036854775807:=by omega
 have hqx:=qbz hx1
 refine run_st [(UF.eq (.int .i64 x)).toSF] Tryz.func122 rfl (by kernel_rfl) ⟨hu,trivial⟩ fun a s=> ?_
 refine wpIn_seq ?_
 refine region_go 0 [] hmix s (by kernel_rfl)
  obs_nil fun a w1 s=> ?_
 refine t_alloc (CU.len 3) (cs:= [.bool false, .slice none 0 0, .slice none 0 0]) (by kernel_rfl) rfl s (by kernel_rfl) (fun W=>rfl) rfl fun b2 a w s=> ?_
 refine tail_end rfl ?_
 refine wpIn_seq ?_
 refine region_go 4 ((3, .s ((UF.eq (.int .i64 (x))).toSF))::(4, .s ((fQN ((((x):Int):Rat))).toSF))::(5, .s ((fQN ((((0):Int):Rat))).toSF))::(6, .u (fQN (hlf x))):: []) hmix s (by kernel_rfl)
  (oc ok_move<|oc (ok_call1 wide_wide en_27 (fun u0 W hb (h0:u0= .int .i64 (x))=>r7of_w (x) h0 hx))<|oc (ok_call1 wide_wide en_27 (fun u0 W hb (h0:u0= .int .i64 (0))=>r7of_w (0) h0 (by decide)))<|oc (ok_call2 wide_wide en_49 (fun u0 u1 W hb (h0:QNp ((((x):Int):Rat)) u0 W) (h1:QNp ((((0):Int):Rat)) u1 W)=>r7mid_q (m:=1) (QNp.rv h0 hqx) (QNp.rv h1 (qbz (by decide))) (by decide) (by decide)))<|obs_nil) fun a w2 s=> ?_
 refine t_store (CU.agg (fQN (hlf x))) ((fQN (hlf x)).toSF) rfl s (by kernel_rfl) rfl rfl rfl iiz iiz (qn_store) fun a w s=> ?_
 refine tail_end rfl ?_
 refine wpIn_ret ?_
 exact StS.resC s (CU.agg (fQN (hlf x))) rfl (by kernel_rfl) rfl rfl (qn_len _) (fun cs W h=>h)
theorem half_p {W:World} {u v:Value} {x y:Int} (hu:u= .int .i64 x) (hv:v= .int .i64 y) (hx:x.natAbs<100) (hy:y.natAbs<100):Calls Tryz.prog 79 #[u,v] W (Ret W (fPN (hlf x,hlf y)).toSF):=by
 refine run_st [(UF.eq (.int .i64 x)).toSF,(UF.eq (.int .i64 y)).toSF] Tryz.func79 rfl (by kernel_rfl) ⟨hu,hv,trivial⟩ fun a s=> ?_
 refine wpIn_seq ?_
 refine region_go 0 [] hmix s (by kernel_rfl)
  obs_nil fun a w1 s=> ?_
 refine t_alloc (CU.len 6) (cs:= [.bool false, .slice none 0 0, .slice none 0 0, .bool false, .slice none 0 0, .slice none 0 0]) (by kernel_rfl) rfl s (by kernel_rfl) (fun W=>rfl) rfl fun b4 a w s=> ?_
 refine tail_end rfl ?_
 refine wpIn_seq ?_
 refine region_go 5 ((5, .s ((UF.eq (.int .i64 (x))).toSF))::(6, .s ((fQN (hlf x)).toSF))::(7, .s ((UF.eq (.int .i64 (y))).toSF))::(8, .s ((fQN (hlf y)).toSF))::(9, .u (fPN (hlf x,hlf y))):: []) hmix s (by kernel_rfl)
  (oc ok_move<|oc (ok_call1 wide_wide en_122 (fun u0 W hb (h0:u0= .int .i64 (x))=>halved_q h0 hx))<|oc ok_move<|oc (ok_call1 wide_wide en_122 (fun u0 W hb (h0:u0= .int .i64 (y))=>halved_q h0 hy))<|oc (ok_build2 (fun u v W (hu:QNp (hlf x) u W) (hv:QNp (hlf y) v W)=>b_pt (ratU_qn _) (ratU_qn _) hu hv))<|obs_nil) fun a w2 s=> ?_
 refine t_store (CU.agg (fPN (hlf x,hlf y))) ((fPN (hlf x,hlf y)).toSF) rfl s (by kernel_rfl) rfl rfl rfl iiz iiz (pt_store) fun a w s=> ?_
 refine tail_end rfl ?_
 refine wpIn_ret ?_
 exact StS.resC s (CU.agg (fPN (hlf x,hlf y))) rfl (by kernel_rfl) rfl rfl (pt_len _ _) (fun cs W h=>h)
theorem wakes17 {W:World} (hT:Tab W):Calls Tryz.prog 31 #[] W (Ret W (fB true).toSF):=by
 refine run_st [] Tryz.func31 rfl (by kernel_rfl) trivial fun a s=> ?_
 refine wpIn_seq ?_
 refine region_go 1 ((0, .u (UF.eq (.bool false))):: []) hmix s (by kernel_rfl)
  (oc (ok_assign)<|obs_nil) fun a w1 s=> ?_
 refine tail_end rfl ?_
 refine wpIn_seq ?_
 refine region_goN 1 ((2, .s (SF.row 6 (pns T3L))):: []) hmix s (by kernel_rfl)
  (oc (ok_call0 wide_wide en_77 (fun W hb=>three_p))<|obs_nil) fun a w2 s hr=> ?_
 obtain ⟨v5,e5⟩: ∃v,a.tmps.getD 2 undef=v:=⟨_,rfl⟩
 have hv5:(SF.row 6 (pvs 1 T3L)).p v5 w2:=e5▸pns_pvs t3_qb _ _ (hr (_,_) (.head _))
 replace s:=s.learn 2 v5 e5
 have hb0:=s.below
 replace hT:=hT.below hb0
 replace s:=s.reb rfl [(2, .u (UF.eq (v5))),(0, .u (UF.eq (.bool false)))] (fmz ⟨.inl (.head _),fmz ⟨.inl mz1,fnz⟩⟩)
 refine t_set (UF.eq v5) rfl s (by kernel_rfl) iiz fun a w s=> ?_
 refine tail_end rfl ?_
 refine wpIn_seq ?_
 replace s:=s.drop [0]
 refine region_go 43 ((3, .s ((fPN (((((1):Int):Rat),(((0):Int):Rat)))).toSF))::(4, .s ((UF.eq v5).toSF))::(5, .s ((UF.eq (.int .i64 (0))).toSF))::(6, .s ((UF.eq (.bool true)).toSF))::(7, .s ((UF.eq (.bool true)).toSF))::(8, .s ((fPN (((((1):Int):Rat),(((0):Int):Rat)))).toSF))::(9, .s ((UF.eq v5).toSF))::(10, .s ((UF.eq (.int .i64 (0))).toSF))::(11, .s ((UF.eq (.bool true)).toSF))::(12, .s ((UF.eq (.bool true)).toSF))::(13, .s ((UF.eq (.bool true)).toSF))::(14, .s ((fPN ((hlf 1,hlf 1))).toSF))::(15, .s ((UF.eq v5).toSF))::(16, .s ((UF.eq (.int .i64 (1))).toSF))::(17, .s ((UF.eq (.bool true)).toSF))::(18, .s ((UF.eq (.bool true)).toSF))::(19, .s ((UF.eq (.bool true)).toSF))::(20, .s ((fPN (((((2):Int):Rat),(((2):Int):Rat)))).toSF))::(21, .s ((UF.eq v5).toSF))::(22, .s ((UF.eq (.int .i64 (-1))).toSF))::(23, .s ((UF.eq (.bool true)).toSF))::(24, .s ((UF.eq (.bool true)).toSF))::(25, .s ((UF.eq (.bool true)).toSF))::(26, .s ((UF.eq v5).toSF))::(27, .s ((UF.eq v5).toSF))::(28, .s ((UF.eq (.bool true)).toSF))::(29, .s ((UF.eq (.bool true)).toSF))::(30, .s ((UF.eq (.bool true)).toSF))::(31, .s ((UF.eq v5).toSF))::(32, .s ((UF.eq v5).toSF))::(33, .s (SF.ptr (CU.agg (fPV (1) ((at_ T3L 0)))).cf))::(34, .s ((fPV (1) ((at_ T3L 0))).toSF))::(35, .s (SF.row 6 [CU.agg (fPV (1) ((at_ T3L 0)))]))::(36, .s ((UF.eq (.bool false)).toSF))::(37, .s ((UF.eq (.bool true)).toSF))::(38, .s ((UF.eq (.bool true)).toSF))::(39, .s ((UF.eq (.bool true)).toSF))::(40, .s ((fPN ((hlf 1,hlf 1))).toSF))::(41, .s ((UF.eq v5).toSF))::(42, .s ((UF.eq (.int .i64 (1))).toSF))::(43, .s ((UF.eq (.bool true)).toSF))::(44, .s ((UF.eq (.bool true)).toSF))::(0, .u (UF.eq (.bool true))):: []) hmix s (by kernel_rfl)
  (oc (ok_call2 wide_wide en_25 (fun u0 u1 W hb (h0:u0= .int .i64 (1)) (h1:u1= .int .i64 (0))=>r8of_p h0 h1 (by decide) (by decide)))<|oc ok_move<|oc (ok_call2 wide_wide en_34 (fun u0 u1 W hb (h0:(fPN (((((1):Int):Rat),(((0):Int):Rat)))).p u0 W) (h1:u1=v5)=>(iwhere_p (m:=1) (p:=((((1):Int):Rat),(((0):Int):Rat))) (ps:=T3L) (pn_pv (p:=((((1):Int):Rat),(((0):Int):Rat))) (m:=1) (qbz (by decide)) (qbz (by decide)) h0) (by rw [show _=v5 from h1];exact (SF.row 6 (pvs (1) (T3L))).st _ _ _ hv5 (s.up hb)) (by decide) (by decide) (by decide) (hT.below (s.up hb))).mono (Ret.to (fun v W h=>by rw [tw1] at h;exact h))))<|oc (ok_cmpI .i64 (0) (0) true iiz iiz (by rfl) rfl)<|oc ok_move<|oc (ok_guard 7 true (by kernel_rfl) iiz (fun _=>ok_call2 wide_wide en_25 (fun u0 u1 W hb (h0:u0= .int .i64 (1)) (h1:u1= .int .i64 (0))=>r8of_p h0 h1 (by decide) (by decide))) (fun e=>absurd rfl e))<|oc (ok_guard 7 true (by kernel_rfl) iiz (fun _=>ok_move) (fun e=>absurd rfl e))<|oc (ok_guard 7 true (by kernel_rfl) iiz (fun _=>ok_call2 wide_wide en_78 (fun u0 u1 W hb (h0:(fPN (((((1):Int):Rat),(((0):Int):Rat)))).p u0 W) (h1:u1=v5)=>(ion_p (m:=1) (p:=((((1):Int):Rat),(((0):Int):Rat))) (ps:=T3L) (pn_pv (p:=((((1):Int):Rat),(((0):Int):Rat))) (m:=1) (qbz (by decide)) (qbz (by decide)) h0) (by rw [show _=v5 from h1];exact (SF.row 6 (pvs (1) (T3L))).st _ _ _ hv5 (s.up hb)) (by decide) (by decide) (by decide) (hT.below (s.up hb))).mono (Ret.to (fun v W h=>by rw [tw2] at h;exact h)))) (fun e=>absurd rfl e))<|oc (ok_guard 7 true (by kernel_rfl) iiz (fun _=>ok_cmpI .i64 (0) (0) true iiz iiz (by rfl) rfl) (fun e=>absurd rfl e))<|oc (ok_pick true iiz (fun _ _ _ h=>h) (fun e=>by cases e))<|oc ok_move<|oc (ok_guard 13 true (by kernel_rfl) iiz (fun _=>ok_call2 wide_wide en_79 (fun u0 u1 W hb (h0:u0= .int .i64 (1)) (h1:u1= .int .i64 (1))=>half_p (x:=1) (y:=1) h0 h1 (by decide) (by decide))) (fun e=>absurd rfl e))<|oc (ok_guard 13 true (by kernel_rfl) iiz (fun _=>ok_move) (fun e=>absurd rfl e))<|oc (ok_guard 13 true (by kernel_rfl) iiz (fun _=>ok_call2 wide_wide en_34 (fun u0 u1 W hb (h0:(fPN ((hlf 1,hlf 1))).p u0 W) (h1:u1=v5)=>(iwhere_p (m:=1) (p:=(hlf 1,hlf 1)) (ps:=T3L) (pn_pv (p:=(hlf 1,hlf 1)) (m:=1) qb_hlf qb_hlf h0) (by rw [show _=v5 from h1];exact (SF.row 6 (pvs (1) (T3L))).st _ _ _ hv5 (s.up hb)) (by decide) (by decide) (by decide) (hT.below (s.up hb))).mono (Ret.to (fun v W h=>by rw [tw3] at h;exact h)))) (fun e=>absurd rfl e))<|oc (ok_guard 13 true (by kernel_rfl) iiz (fun _=>ok_cmpI .i64 (1) (1) true iiz iiz (by rfl) rfl) (fun e=>absurd rfl e))<|oc (ok_pick true iiz (fun _ _ _ h=>h) (fun e=>by cases e))<|oc ok_move<|oc (ok_guard 19 true (by kernel_rfl) iiz (fun _=>ok_call2 wide_wide en_25 (fun u0 u1 W hb (h0:u0= .int .i64 (2)) (h1:u1= .int .i64 (2))=>r8of_p h0 h1 (by decide) (by decide))) (fun e=>absurd rfl e))<|oc (ok_guard 19 true (by kernel_rfl) iiz (fun _=>ok_move) (fun e=>absurd rfl e))<|oc (ok_guard 19 true (by kernel_rfl) iiz (fun _=>ok_call2 wide_wide en_34 (fun u0 u1 W hb (h0:(fPN (((((2):Int):Rat),(((2):Int):Rat)))).p u0 W) (h1:u1=v5)=>(iwhere_p (m:=1) (p:=((((2):Int):Rat),(((2):Int):Rat))) (ps:=T3L) (pn_pv (p:=((((2):Int):Rat),(((2):Int):Rat))) (m:=1) (qbz (by decide)) (qbz (by decide)) h0) (by rw [show _=v5 from h1];exact (SF.row 6 (pvs (1) (T3L))).st _ _ _ hv5 (s.up hb)) (by decide) (by decide) (by decide) (hT.below (s.up hb))).mono (Ret.to (fun v W h=>by rw [tw4] at h;exact h)))) (fun e=>absurd rfl e))<|oc (ok_guard 19 true (by kernel_rfl) iiz (fun _=>ok_cmpI .i64 (-1) (-1) true iiz iiz (by rfl) rfl) (fun e=>absurd rfl e))<|oc (ok_pick true iiz (fun _ _ _ h=>h) (fun e=>by cases e))<|oc ok_move<|oc (ok_guard 25 true (by kernel_rfl) iiz (fun _=>ok_move) (fun e=>absurd rfl e))<|oc (ok_guard 25 true (by kernel_rfl) iiz (fun _=>ok_move) (fun e=>absurd rfl e))<|oc (ok_guard 25 true (by kernel_rfl) iiz (fun _=>ok_call2 wide_wide en_36 (fun u0 u1 W hb (h0:u0=v5) (h1:u1=v5)=>(iholds_p (m:=1) (ps:=T3L) (qs:=T3L) (by rw [show _=v5 from h0];exact (SF.row 6 (pvs (1) (T3L))).st _ _ _ hv5 (s.up hb)) (by rw [show _=v5 from h1];exact (SF.row 6 (pvs (1) (T3L))).st _ _ _ hv5 (s.up hb)) (by decide) (by decide) (by decide) (by decide) (hT.below (s.up hb))).mono (Ret.to (fun v W h=>by rw [tw5] at h;exact h)))) (fun e=>absurd rfl e))<|oc (ok_pick true iiz (fun _ _ _ h=>h) (fun e=>by cases e))<|oc ok_move<|oc (ok_guard 30 true (by kernel_rfl) iiz (fun _=>ok_move) (fun e=>absurd rfl e))<|oc (ok_guard 30 true (by kernel_rfl) iiz (fun _=>ok_move) (fun e=>absurd rfl e))<|oc (ok_guard 30 true (by kernel_rfl) iiz (fun _=>ok_indexB (z:=6) (Cs:=pvs (1) (T3L)) (i:=0) (C:=CU.agg (fPV (1) ((at_ T3L 0)))) (by kernel_rfl) (pvs_get (by decide)) (fun v W hb h=>(by rw [show _=v5 from h];exact (SF.row 6 (pvs (1) (T3L))).st _ _ _ hv5 (s.up hb))) iiz) (fun e=>absurd rfl e))<|oc (ok_guard 30 true (by kernel_rfl) iiz (fun _=>ok_ldW (f:=fPV (1) ((at_ T3L 0))) 6 (by kernel_rfl) (hz:=pt_len _ _)) (fun e=>absurd rfl e))<|oc (ok_guard 30 true (by kernel_rfl) iiz (fun _=>ok_slice1 (fun u W (hu:(fPV (1) ((at_ T3L 0))).p u W)=>sl_pt1 hu)) (fun e=>absurd rfl e))<|oc (ok_guard 30 true (by kernel_rfl) iiz (fun _=>ok_call2 wide_wide en_35 (fun u0 u1 W hb (h0:u0=v5) h1=>(istrictly_p (m:=1) (ps:=T3L) (qs:= [at_ T3L 0]) (by rw [show _=v5 from h0];exact (SF.row 6 (pvs (1) (T3L))).st _ _ _ hv5 (s.up hb)) h1 (by decide) (by decide) (by decide) (by decide) (hT.below (s.up hb))).mono (Ret.to (fun v W h=>by rw [tw6] at h;exact h)))) (fun e=>absurd rfl e))<|oc (ok_guard 30 true (by kernel_rfl) iiz (fun _=>ok_not (false) iiz (fun _=>rfl)) (fun e=>absurd rfl e))<|oc (ok_pick true iiz (fun _ _ _ h=>h) (fun e=>by cases e))<|oc ok_move<|oc (ok_guard 39 true (by kernel_rfl) iiz (fun _=>ok_call2 wide_wide en_79 (fun u0 u1 W hb (h0:u0= .int .i64 (1)) (h1:u1= .int .i64 (1))=>half_p (x:=1) (y:=1) h0 h1 (by decide) (by decide))) (fun e=>absurd rfl e))<|oc (ok_guard 39 true (by kernel_rfl) iiz (fun _=>ok_move) (fun e=>absurd rfl e))<|oc (ok_guard 39 true (by kernel_rfl) iiz (fun _=>ok_call2 wide_wide en_80 (fun u0 u1 W hb (h0:(fPN ((hlf 1,hlf 1))).p u0 W) (h1:u1=v5)=>(icrossed_p (m:=1) (p:=(hlf 1,hlf 1)) (ps:=T3L) (pn_pv (p:=(hlf 1,hlf 1)) (m:=1) qb_hlf qb_hlf h0) (by rw [show _=v5 from h1];exact (SF.row 6 (pvs (1) (T3L))).st _ _ _ hv5 (s.up hb)) (by decide) (by decide) (by decide) (hT.below (s.up hb))).mono (Ret.to (fun v W h=>by rw [tw7] at h;exact h)))) (fun e=>absurd rfl e))<|oc (ok_guard 39 true (by kernel_rfl) iiz (fun _=>ok_cmpI .i64 (1) (1) true iiz iiz (by rfl) rfl) (fun e=>absurd rfl e))<|oc (ok_pick true iiz (fun _ _ _ h=>h) (fun e=>by cases e))<|oc (ok_assign)<|obs_nil) fun a w3 s=> ?_
 refine tail_end rfl ?_
 refine wpIn_ret ?_
 exact StS.resB s hb0 (t:=0) rfl iiz
end Go.Proofs.Wd

namespace Go.Proofs.Wd
open Go.RowKit Lb
theorem qsg_le0 {p q:Rat}:decide (qsg p q≤0)=decide (p≤q):=by
 rw [decide_eq_decide]
 rcases qsg_cases p q with h|h|h
 ·have:=qsg_lt.1 h
  exact ⟨fun _=>by grind,fun _=>by omega⟩
 ·have:=qsg_eq.1 h
  exact ⟨fun _=>by grind,fun _=>by omega⟩
 ·have:=qsg_gt.1 h
  exact ⟨fun _=>by omega,fun _=>by grind⟩
theorem qsg_lt0 {p q:Rat}:decide (qsg p q<0)=decide (p<q):=by
 rw [decide_eq_decide]
 rcases qsg_cases p q with h|h|h
 ·have:=qsg_lt.1 h
  exact ⟨fun _=>this,fun _=>by omega⟩
 ·have:=qsg_eq.1 h
  exact ⟨fun _=>by omega,fun _=>by grind⟩
 ·have:=qsg_gt.1 h
  exact ⟨fun _=>by omega,fun _=>by grind⟩
theorem qsg_gt0 {p q:Rat}:decide (qsg p q>0)=decide (q<p):=by
 rw [decide_eq_decide]
 rcases qsg_cases p q with h|h|h
 ·have:=qsg_lt.1 h
  exact ⟨fun _=>by omega,fun _=>by grind⟩
 ·have:=qsg_eq.1 h
  exact ⟨fun _=>by omega,fun _=>by grind⟩
 ·have:=qsg_gt.1 h
  exact ⟨fun _=>this,fun _=>by omega⟩
theorem side_pos {a b p:V2}:(sideS a b p==1)=decide (0<crs a b p):=by
 have h:sideS a b p=1↔0<crs a b p:=by
  unfold sideS
  rw [Int.sign_eq_one_iff_pos,Rat.lt_iff]
  simp
 by_cases e:0<crs a b p
 ·rw [decide_eq_true e,beq_iff_eq];exact h.2 e
 ·rw [decide_eq_false e,beq_eq_false_iff_ne];exact fun h1=>e (h.1 h1)
theorem cov_lo {a b r:Rat} (h1:r<a) (h2:r<b):covB a b r=false:=by
 unfold covB
 rw [qsg_gt.2 h1,qsg_lt.2 h2]
 rfl
theorem cov_hi {a b r:Rat} (h1:a<r) (h2:b<r):covB a b r=false:=by
 unfold covB
 rw [qsg_lt.2 h1,qsg_gt.2 h2]
 rfl
def beyond:Fin 4→V2→V2→Prop
 |0,p,a=>p.1<a.1
 |1,p,a=>a.1<p.1
 |2,p,a=>p.2<a.2
 |3,p,a=>a.2<p.2
theorem on_far {d:Fin 4} {a b p:V2} (h1:beyond d p a) (h2:beyond d p b):onB a b p=false:=by
 unfold onB
 match d with
 |0=>rw [cov_lo h1 h2];simp
 |1=>rw [cov_hi h1 h2];simp
 |2=>rw [cov_lo h1 h2];simp
 |3=>rw [cov_hi h1 h2];simp
theorem crs1_eq {a b p:V2}:crs1 a b p=(decide (a.2≤p.2)&&decide (p.2<b.2)&&decide (0<crs a b p)):=by
 unfold crs1
 rw [qsg_le0,qsg_lt0,side_pos]
theorem crs_form (a b p:V2):crs a b p=(b.1 - a.1)*(p.2 - a.2) - (b.2 - a.2)*(p.1 - a.1):=by
 unfold crs
 grind
theorem crs1_left {a b p:V2} (h1:p.1<a.1) (h2:p.1<b.1):crs1 a b p=(decide (a.2≤p.2)&&decide (p.2<b.2)):=by
 rw [crs1_eq]
 by_cases e:a.2≤p.2∧p.2<b.2
 ·obtain ⟨e1,e2⟩:=e
  have:0<crs a b p:=by
   rw [crs_form]
   have k1:0<(b.2 - p.2)*(a.1 - p.1):=Rat.mul_pos (by grind) (by grind)
   have k2:0≤(p.2 - a.2)*(b.1 - p.1):=Rat.mul_nonneg (by grind) (by grind)
   grind
  rw [decide_eq_true e1,decide_eq_true e2,decide_eq_true this];rfl
 ·have:(decide (a.2≤p.2)&&decide (p.2<b.2))=false:=by
   rw [Bool.and_eq_false_iff,decide_eq_false_iff_not,decide_eq_false_iff_not]
   by_cases e1:a.2≤p.2
   ·exact .inr fun e2=>e ⟨e1,e2⟩
   ·exact .inl e1
  rw [this];rfl
theorem crs1_right {a b p:V2} (h1:a.1<p.1) (h2:b.1<p.1):crs1 a b p=false:=by
 rw [crs1_eq]
 by_cases e:a.2≤p.2∧p.2<b.2
 ·obtain ⟨e1,e2⟩:=e
  have: ¬0<crs a b p:=by
   rw [crs_form]
   have k1:0<(b.2 - p.2)*(p.1 - a.1):=Rat.mul_pos (by grind) (by grind)
   have k2:0≤(p.2 - a.2)*(p.1 - b.1):=Rat.mul_nonneg (by grind) (by grind)
   grind
  rw [decide_eq_false this,Bool.and_false]
 ·have:(decide (a.2≤p.2)&&decide (p.2<b.2))=false:=by
   rw [Bool.and_eq_false_iff,decide_eq_false_iff_not,decide_eq_false_iff_not]
   by_cases e1:a.2≤p.2
   ·exact .inr fun e2=>e ⟨e1,e2⟩
   ·exact .inl e1
  rw [this];rfl
theorem crs1_low {a b p:V2} (h1:p.2<a.2):crs1 a b p=false:=by
 rw [crs1_eq,decide_eq_false (show ¬a.2≤p.2 by grind)];rfl
theorem crs1_high {a b p:V2} (h1:b.2<p.2):crs1 a b p=false:=by
 rw [crs1_eq,decide_eq_false (show ¬p.2<b.2 by grind),Bool.and_false];rfl
def uptoB (p a:V2):Bool:=decide (a.2≤p.2)
theorem cross_left {a b p:V2} (h1:p.1<a.1) (h2:p.1<b.1):crossB a b p=(uptoB p a !=uptoB p b):=by
 unfold crossB uptoB
 split
 ·rename_i h
  have h:=of_decide_eq_true ((qsg_gt0 (p:=a.2) (q:=b.2)).symm.trans (decide_eq_true h))
  rw [crs1_left h2 h1]
  by_cases e1:a.2≤p.2<;>by_cases e2:b.2≤p.2
  ·rw [decide_eq_true e1,decide_eq_true e2,decide_eq_false (show ¬p.2<a.2 by grind)];rfl
  ·exact absurd e1 (by grind)
  ·rw [decide_eq_false e1,decide_eq_true e2,decide_eq_true (show p.2<a.2 by grind)];rfl
  ·rw [decide_eq_false e1,decide_eq_false e2];rfl
 ·rename_i h
  have h:=of_decide_eq_false ((qsg_gt0 (p:=a.2) (q:=b.2)).symm.trans (decide_eq_false h))
  rw [crs1_left h1 h2]
  by_cases e1:a.2≤p.2<;>by_cases e2:b.2≤p.2
  ·rw [decide_eq_true e1,decide_eq_true e2,decide_eq_false (show ¬p.2<b.2 by grind)];rfl
  ·rw [decide_eq_true e1,decide_eq_false e2,decide_eq_true (show p.2<b.2 by grind)];rfl
  ·exact absurd e2 (by grind)
  ·rw [decide_eq_false e1,decide_eq_false e2];rfl
theorem cross_far {d:Fin 4} {a b p:V2} (h0:d≠0) (h1:beyond d p a) (h2:beyond d p b):crossB a b p=false:=by
 unfold crossB
 match d with
 |0=>exact absurd rfl h0
 |1=>split;exact crs1_right h2 h1;exact crs1_right h1 h2
 |2=>split;exact crs1_low h2;exact crs1_low h1
 |3=>split;exact crs1_high h1;exact crs1_high h2
theorem cnt_none {f:Nat→Bool}: ∀k,(∀j,j<k→f j=false)→cntK f k=0
 |0,_=>rfl
 |k+1,h=>by rw [cntK_f (h k (Nat.lt_succ_self k)),cnt_none k (fun j hj=>h j (Nat.lt_succ_of_lt hj))]
theorem cnt_turn {f s:Nat→Bool}: ∀k,(∀j,j<k→f j=(s j !=s (j+1)))→cntK f k % 2=if s 0=s k then 0 else 1
 |0,_=>by rw [if_pos rfl];rfl
 | k+1,h=>by
  have ih:=cnt_turn k (fun j hj=>h j (Nat.lt_succ_of_lt hj))
  have hk:=h k (Nat.lt_succ_self k)
  cases hf:f k with
  |true=>
   rw [cntK_t hf]
   rw [hf] at hk
   cases h0:s 0<;>cases h1:s k<;>cases h2:s (k+1)<;>simp [h0,h1,h2] at hk ih ⊢<;>omega
  |false=>
   rw [cntK_f hf]
   rw [hf] at hk
   cases h0:s 0<;>cases h1:s k<;>cases h2:s (k+1)<;>simp [h0,h1,h2] at hk ih ⊢<;>omega
theorem at_mem' {ps:List V2} {i:Nat} (h:i<ps.length):at_ ps i∈ps:=by
 unfold at_
 rw [List.getD_eq_getElem?_getD,List.getElem?_eq_getElem h]
 exact List.getElem_mem h
theorem far_out {d:Fin 4} {ps:List V2} {p:V2} (h: ∀a,a∈ps→beyond d p a):whereV ps p= -1:=by
 have hne: ∀k,k<nE ps→k<ps.length∧(k+1) % ps.length<ps.length∧nE ps=ps.length:=fun k hk=>by
  unfold nE at hk ⊢
  split at hk
  ·rename_i h2
   exact ⟨hk,Nat.mod_lt _ (by omega),if_pos h2⟩
  ·exact absurd hk (Nat.not_lt_zero _)
 have hB: ∀k,k<nE ps→beyond d p (at_ ps k)∧beyond d p (at_ ps ((k+1) % ps.length)):=fun k hk=>by
  obtain ⟨h1,h2,_⟩:=hne k hk
  exact ⟨h _ (at_mem' h1),h _ (at_mem' h2)⟩
 have hon:onI ps p= -1:=firstI_none fun k hk=>on_far (hB k hk).1 (hB k hk).2
 have hcr:crN ps p % 2=0:=by
  unfold crN
  by_cases h0:d=0
  ·subst h0
   by_cases hn:nE ps=0
   ·rw [hn];rfl
   ·obtain ⟨_,_,he⟩:=hne 0 (by omega)
    have:=cnt_turn (f:=crK ps p) (s:=fun k=>uptoB p (at_ ps (k % ps.length))) (nE ps) (fun j hj=>by
     obtain ⟨h1,_,_⟩:=hne j hj
     show crossB _ _ _=_
     rw [cross_left (hB j hj).1 (hB j hj).2]
     show _=(uptoB p (at_ ps (j % ps.length)) !=_)
     rw [Nat.mod_eq_of_lt h1])
    rw [this,he]
    simp
  ·rw [cnt_none (f:=crK ps p) _ fun k hk=>cross_far h0 (hB k hk).1 (hB k hk).2]
 unfold whereV
 rw [hon,hcr]
 rfl
theorem none_out (p:V2):whereV [] p= -1:=far_out (d:=0) (fun a ha=>absurd ha List.not_mem_nil)
theorem one_out (q p:V2):whereV [q] p= -1:=by
 have h:nE [q]=0:=rfl
 unfold whereV onI crN
 rw [h]
 rfl
end Go.Proofs.Wd

namespace Go.Proofs.Wd
set_option maxRecDepth 100000
set_option maxHeartbeats 1000000
open Go.RowKit Lb
theorem px_whole80 {x:PX} (h:PX.b x≤80) (cs:List Value) (W:World) (hc:(PX.cu x).p cs W):0+6≤cs.length∧(fPV 80 x.p).p (.agg ((cs.drop 0).take 6).toArray) W:=pt_whole cs W (px_pv80 h hc)
theorem px_x80 {x:PX} (h:PX.b x≤80) (cs:List Value) (W:World) (hc:(PX.cu x).p cs W):0+3≤cs.length∧(fRV 80 x.p.1).p (.agg ((cs.drop 0).take 3).toArray) W:=pt_x cs W (px_pv80 h hc)
theorem px_y80 {x:PX} (h:PX.b x≤80) (cs:List Value) (W:World) (hc:(PX.cu x).p cs W):3+3≤cs.length∧(fRV 80 x.p.2).p (.agg ((cs.drop 3).take 3).toArray) W:=pt_y cs W (px_pv80 h hc)
theorem pxs_ok (ps:List PX): ∀C,C∈pxs ps→CU.ok 6 C:=fun C hC=>by
 obtain ⟨t,_,rfl⟩:=List.mem_map.1 hC
 exact pt_ok _ _
theorem pxs_snoc (ps:List PX) (x:PX):pxs ps++ [PX.cu x]=pxs (ps++ [x]):=by simp [pxs]
def qd (d:Fin 4) (p a:V2):Bool:=match d with
 |0=>decide (qsg p.1 a.1<0)
 |1=>decide (qsg p.1 a.1>0)
 |2=>decide (qsg p.2 a.2<0)
 |3=>decide (qsg p.2 a.2>0)
theorem qd_beyond {d:Fin 4} {p a:V2} (h:qd d p a=true):beyond d p a:=by
 match d with
 |0=>exact of_decide_eq_true (p:=p.1<a.1) ((qsg_lt0 (p:=p.1) (q:=a.1)).symm.trans h)
 |1=>exact of_decide_eq_true (p:=a.1<p.1) ((qsg_gt0 (p:=p.1) (q:=a.1)).symm.trans h)
 |2=>exact of_decide_eq_true (p:=p.2<a.2) ((qsg_lt0 (p:=p.2) (q:=a.2)).symm.trans h)
 |3=>exact of_decide_eq_true (p:=a.2<p.2) ((qsg_gt0 (p:=p.2) (q:=a.2)).symm.trans h)
def farK (d:Fin 4) (ps:List V2) (p:V2) (k:Nat):Bool:=(ps.take k).all (qd d p)
theorem farK_succ {d:Fin 4} {ps:List V2} {p:V2} {k:Nat} (h:k<ps.length):farK d ps p (k+1)=(farK d ps p k&&qd d p (at_ ps k)):=by
 have e:at_ ps k=ps[k]:=by unfold at_;rw [List.getD_eq_getElem?_getD,List.getElem?_eq_getElem h];rfl
 unfold farK
 rw [e,List.take_add_one,List.getElem?_eq_getElem h,List.all_append,Option.toList_some,List.all_cons,List.all_nil,Bool.and_true]
theorem farK_out {d:Fin 4} {ps:List V2} {p:V2} (h:farK d ps p ps.length=true):whereV ps p= -1:=by
 unfold farK at h
 rw [List.take_of_length_le (Nat.le_refl _)] at h
 exact far_out (d:=d) fun a ha=>qd_beyond (List.all_eq_true.1 h a ha)
def farA (ps:List V2) (p:V2):Bool:=((farK 0 ps p ps.length||farK 1 ps p ps.length)||farK 2 ps p ps.length)||farK 3 ps p ps.length
theorem farA_out (ps:List V2) (p:V2):(!(farA ps p)||(whereV ps p== -1))=true:=by
 cases e:farA ps p with
 |false=>rfl
 | true=>
  have:whereV ps p= -1:=by
   unfold farA at e
   rw [Bool.or_eq_true,Bool.or_eq_true,Bool.or_eq_true] at e
   rcases e with ((e|e)|e)|e<;>exact farK_out e
  rw [this];rfl
theorem ifar_p {A:List PX} {y:PX} {W:World} {r u:Value} (hr0:(SF.row 6 (pxs A)).p r W) (hy:(PX.u y).p u W) (hAl:A.length≤1048576) (hAb: ∀p,p∈A→PX.b p≤1048576) (hyb:PX.b y≤1048576) (hT:Tab W):Calls Tryz.prog 7 #[r,u] W (Ret W (fB true).toSF):=by
 have hAy: ∀p,p∈A++ [y]→PX.b p≤1048576:=fun p hp=>by
  rcases List.mem_append.1 hp with h|h
  ·exact hAb p h
  ·rw [List.mem_singleton.1 h];exact hyb
 refine run_st [(UF.eq r).toSF,(PX.u y).toSF] Tryz.func7 rfl (by kernel_rfl) ⟨rfl,hy,trivial⟩ fun a s=> ?_
 replace s:=s.renew [(0, .u (UF.eq r)),(1, .u (PX.u y))] (fmz ⟨.inr ⟨_,rfl, .head _⟩,fmz ⟨.inr ⟨_,rfl,mz1⟩,fnz⟩⟩)
 refine wpIn_seq ?_
 refine region_go 0 [] hmix s (by kernel_rfl)
  obs_nil fun a w1 s=> ?_
 refine t_box (PX.cu y) rfl s (by kernel_rfl) (fun v W h=>pt_box h) fun b3 a w s=> ?_
 refine t_set (UF.eq (.bool false)) rfl s (by kernel_rfl) iiz fun a w s=> ?_
 refine tail_end rfl ?_
 refine wpIn_seq ?_
 refine wpIn_seq ?_
 have sb:=s;have so:=s.old;have sg:=s.gr.size
 refine rest_in (GW w) hmix s fun w2 hwb s=> ?_
 have hz:=hwb.size
 refine rest_go [] [0,1,2,3,4] ((11, .s (SF.emp w2 31))::(12, .s ((UF.eq r).toSF))::(13, .s (SF.newRow w2 31 6 (pxs A)))::(14, .s ((PX.u y).toSF))::(15, .s (SF.row 6 [PX.cu y])):: []) (gw_gr hwb) s (by kernel_rfl)
  (oc (ok_slice0 (z:=6) (by kernel_rfl))<|oc ok_move<|oc (ok_appE (pxs A) (by kernel_rfl) iiz (fun v W hb h=>(by rw [show _=r from h];exact (SF.row 6 (pxs A)).st _ _ _ hr0 (s.up hb))) (pxs_ok _) (by simp;omega))<|oc (ok_ldW (f:=PX.u y) 6 (by kernel_rfl) (hz:=pt_len _ _))<|oc (ok_slice1 (fun u W (hu:(PX.u y).p u W)=>sl_pt1 hu))<|obs_nil)
  (fdl_nil) fun a w3 hbw s hr=> ?_
 replace hwb:=hwb.trans (hbw.mono hwb.size)
 refine rest_app (i:=5) (x:= .tmp 13) (y:= .tmp 15) ([PX.cu y]) hwb s sg (RowN.mono (hr (_,_) mz2) hz) rfl (wanted_none rfl) (by kernel_rfl) (by kernel_rfl) (by kernel_rfl) rfl (hr (_,_) mz4) (one_ok _ _) (by simp;omega) so fun v16 a w4 hwb hN16 s=> ?_
 have hR16:=hN16.row
 rw [pxs_snoc] at hR16
 have hz:=hwb.size
 refine rest_go [] [6,7,8,9,10,11] ((17, .s ((UF.eq (.bool (g13 (A++ [y])))).toSF))::(18, .s ((UF.eq (.bool (g13 (A++ [y])))).toSF))::(19, .s (SF.imp ((g13 (A++ [y]))=false) ((UF.eq r).toSF)))::(20, .s (SF.imp ((g13 (A++ [y]))=false) ((UF.eq (.int .i64 ((((pxs A).length:Nat):Int)))).toSF)))::(21, .s (SF.imp ((g13 (A++ [y]))=false) ((UF.eq (.bool (decide ((((pxs A).length:Nat):Int)>10)))).toSF)))::(22, .u (UF.eq (.bool ((g13 (A++ [y]))||(decide ((((pxs A).length:Nat):Int)>10)))))):: []) (gw_gr hwb) s (by kernel_rfl)
  (oc (ok_call1 wide_wide en_29 (fun u0 W hb (h0:u0=v16)=>r13great_p (L:=A++ [y]) (by rw [show _=v16 from h0];exact (SF.row 6 (pxs (A++ [y]))).st _ _ _ hR16 hb) hAy))<|oc ok_move<|oc (ok_guard 18 (g13 (A++ [y])) (by kernel_rfl) iiz (fun e=>gd_imp [] ((UF.eq r).toSF) (fnz) (fun _ _ h _=>h) (by kernel_rfl) (ok_move)) (fun e W h=>absurd h e))<|oc (ok_guard 18 (g13 (A++ [y])) (by kernel_rfl) iiz (fun e=>gd_imp [(19,(UF.eq r).toSF)] ((UF.eq (.int .i64 ((((pxs A).length:Nat):Int)))).toSF) (fmz ⟨fun v W h=>imp_app (c:=(g13 (A++ [y]))=false) (f:=(UF.eq r).toSF) e h,fnz⟩) (fun _ _ h _=>h) (by kernel_rfl) (ok_lenB (z:=6) (Cs:=pxs A) (by kernel_rfl) (fun v W hb h=>(by rw [show _=r from h];exact (SF.row 6 (pxs A)).st _ _ _ hr0 (s.up hb))) (fun _=>rfl))) (fun e W h=>absurd h e))<|oc (ok_guard 18 (g13 (A++ [y])) (by kernel_rfl) iiz (fun e=>gd_imp [(20,(UF.eq (.int .i64 ((((pxs A).length:Nat):Int)))).toSF)] ((UF.eq (.bool (decide ((((pxs A).length:Nat):Int)>10)))).toSF) (fmz ⟨fun v W h=>imp_app (c:=(g13 (A++ [y]))=false) (f:=(UF.eq (.int .i64 ((((pxs A).length:Nat):Int)))).toSF) e h,fnz⟩) (fun _ _ h _=>h) (by kernel_rfl) (ok_cmpI .i64 ((((pxs A).length:Nat):Int)) (10) (decide ((((pxs A).length:Nat):Int)>10)) iiz iiz rfl rfl)) (fun e W h=>absurd h e))<|oc (ok_pick (g13 (A++ [y])) iiz (fun e v W h=>pick_or h e) (fun e v W h=>pick_or' (imp_app e h) e))<|obs_nil)
  (fdl_nil) fun a w5 hbw s hr=> ?_
 replace hwb:=hwb.trans (hbw.mono hwb.size)
 refine rest_end (by kernel_rfl) ?_
 refine StS.cond s ((g13 (A++ [y]))||(decide ((((pxs A).length:Nat):Int)>10))) iiz (fun e=> ?_) (fun e=> ?_)
 ·refine wpIn_seq ?_
  replace s:=s.drop [4]
  refine region_go 2 ((23, .s ((UF.eq (.bool true)).toSF))::(4, .u (UF.eq (.bool true))):: []) hmix s (by kernel_rfl)
   (oc (ok_call0 wide_wide en_31 (fun W hb=>wakes17 (hT.below (s.up hb))))<|oc (ok_assign)<|obs_nil) fun a w6 s=> ?_
  refine tail_end rfl ?_
  refine wpIn_ret ?_
  exact StS.res1 s (t:=4) rfl iiz
 ·rw [Bool.or_eq_false_iff] at e
  obtain ⟨eG,_⟩:=e
  have hG:=g13_f eG
  have hy80:=hG.2 y (by simp)
  have hA:=pxs_pvs80 (L:=A) (fun q hq=>hG.2 q (by simp [hq])) r W hr0
  have hnA:(pps A).length≤1000000:=by have:=hG.1;simp at this ⊢;omega
  have hlA:(pps A).length=A.length:=by simp
  refine wpIn_skip ?_
  refine wpIn_seq ?_
  refine region_go 4 ((5, .u (UF.eq (.bool true)))::(6, .u (UF.eq (.bool true)))::(7, .u (UF.eq (.bool true)))::(8, .u (UF.eq (.bool true))):: []) hmix s (by kernel_rfl)
   (oc (ok_assign)<|oc (ok_assign)<|oc (ok_assign)<|oc (ok_assign)<|obs_nil) fun a w7 s=> ?_
  refine tail_end rfl ?_
  refine wpIn_seq ?_
  refine wpIn_seq ?_
  refine region_go 1 ((9, .u (UF.eq (.int .i64 (0)))):: []) hmix s (by kernel_rfl)
   (oc (ok_assign)<|obs_nil) fun a w8 s=> ?_
  refine tail_end rfl ?_
  refine wpIn_block ?_
  refine st_loop (pps A).length 9 (fun k=> [(0, .u (UF.eq r)),(9, .u (UF.eq (.int .i64 (((k:Nat):Int))))),(5, .u (UF.eq (.bool (farK 0 (pps A) y.p (k))))),(6, .u (UF.eq (.bool (farK 1 (pps A) y.p (k))))),(7, .u (UF.eq (.bool (farK 2 (pps A) y.p (k))))),(8, .u (UF.eq (.bool (farK 3 (pps A) y.p (k)))))]) (fun k=>mz1) (s.keepK _ (fmz ⟨mz8,fmz ⟨.head _,fmz ⟨mz1,fmz ⟨mz2,fmz ⟨mz3,fmz ⟨mz4,fnz⟩⟩⟩⟩⟩⟩)) fun k a w hk s=> ?_
  refine wpIn_seq ?_
  refine wpIn_seq ?_
  refine region_go 4 ((24, .s ((UF.eq (.int .i64 (((k:Nat):Int)))).toSF))::(25, .s ((UF.eq r).toSF))::(26, .s ((UF.eq (.int .i64 ((((pvs (80) (pps A)).length:Nat):Int)))).toSF))::(27, .u (UF.eq (.bool (decide (((k:Nat):Int)<(((pvs (80) (pps A)).length:Nat):Int)))))):: []) hmix s (by kernel_rfl)
   (oc ok_move<|oc ok_move<|oc (ok_lenB (z:=6) (Cs:=pvs (80) (pps A)) (by kernel_rfl) (fun v W hb h=>(by rw [show _=r from h];exact (SF.row 6 (pvs (80) (pps A))).st _ _ _ hA (s.up hb))) (fun _=>rfl))<|oc (ok_cmpI .i64 (((k:Nat):Int)) ((((pvs (80) (pps A)).length:Nat):Int)) (decide (((k:Nat):Int)<(((pvs (80) (pps A)).length:Nat):Int))) iiz iiz rfl rfl)<|obs_nil) fun a w9 s=> ?_
  refine tail_end rfl ?_
  refine StS.cond s (decide (((k:Nat):Int)<(((pvs (80) (pps A)).length:Nat):Int))) iiz (fun e=> ?_) (fun e=> ?_)
  ·have hk:k<(pps A).length:=by have h7:=of_decide_eq_true e;simp at h7 ⊢;omega
   refine wpIn_skip ?_
   refine wpIn_seq ?_
   refine wpIn_block ?_
   refine wpIn_seq ?_
   refine region_goPS (K:= [(27, .u (UF.eq (.bool (decide (((k:Nat):Int)<(((pvs (80) (pps A)).length:Nat):Int)))))),(0, .u (UF.eq r)),(9, .u (UF.eq (.int .i64 (((k:Nat):Int))))),(6, .u (UF.eq (.bool (farK 1 (pps A) y.p (k))))),(7, .u (UF.eq (.bool (farK 2 (pps A) y.p (k))))),(8, .u (UF.eq (.bool (farK 3 (pps A) y.p (k)))))]) [(5, .u (UF.eq (.bool (farK 0 (pps A) y.p (k)))))] [0] 12 ((30, .s ((UF.eq (.bool (farK 0 (pps A) y.p (k)))).toSF))::(31, .s ((UF.eq (.bool (farK 0 (pps A) y.p (k)))).toSF))::(32, .s (SF.imp ((farK 0 (pps A) y.p (k))=true) (SF.ptr ((PX.cu y).cf.at 0))))::(33, .s (SF.imp ((farK 0 (pps A) y.p (k))=true) ((fRV (80) ((y.p).1)).toSF)))::(34, .s (SF.imp ((farK 0 (pps A) y.p (k))=true) ((UF.eq r).toSF)))::(35, .s (SF.imp ((farK 0 (pps A) y.p (k))=true) ((UF.eq (.int .i64 (((k:Nat):Int)))).toSF)))::(36, .s (SF.imp ((farK 0 (pps A) y.p (k))=true) (SF.ptr (CU.agg (fPV (80) ((at_ (pps A) k)))).cf)))::(37, .s (SF.imp ((farK 0 (pps A) y.p (k))=true) (SF.ptr ((CU.agg (fPV (80) ((at_ (pps A) k)))).cf.at 0))))::(38, .s (SF.imp ((farK 0 (pps A) y.p (k))=true) ((fRV (80) (((at_ (pps A) k)).1)).toSF)))::(39, .s (SF.imp ((farK 0 (pps A) y.p (k))=true) ((UF.eq (.int .i64 (qsg (y.p).1 ((at_ (pps A) k)).1))).toSF)))::(40, .s (SF.imp ((farK 0 (pps A) y.p (k))=true) ((UF.eq (.bool (decide (qsg (y.p).1 ((at_ (pps A) k)).1<0)))).toSF)))::(41, .u (UF.eq (.bool ((farK 0 (pps A) y.p (k))&&(decide (qsg (y.p).1 ((at_ (pps A) k)).1<0)))))):: []) hmix (s.keepK _ (fmz ⟨mz3,fmz ⟨.head _,fmz ⟨mz1,fmz ⟨mz2,fmz ⟨mz4,fmz ⟨mz5,fmz ⟨mz6,fnz⟩⟩⟩⟩⟩⟩⟩)) (by kernel_rfl)
    (oc ok_move<|oc ok_move<|oc (ok_guard 31 (farK 0 (pps A) y.p (k)) (by kernel_rfl) iiz (fun e=>gd_imp [] (SF.ptr ((PX.cu y).cf.at 0)) (fnz) (fun _ _ h _=>h) (by kernel_rfl) (ok_fld (C:=(PX.cu y).cf) 0 (by kernel_rfl))) (fun e W h=>absurd h e))<|oc (ok_guard 31 (farK 0 (pps A) y.p (k)) (by kernel_rfl) iiz (fun e=>gd_imp [(32,SF.ptr ((PX.cu y).cf.at 0))] ((fRV (80) ((y.p).1)).toSF) (fmz ⟨fun v W h=>imp_app (c:=(farK 0 (pps A) y.p (k))=true) (f:=SF.ptr ((PX.cu y).cf.at 0)) e h,fnz⟩) (fun _ _ h _=>h) (by kernel_rfl) (ok_ldA (C:=(PX.cu y).cf) (k:=0) 3 (by kernel_rfl) (h:=px_x80 hy80))) (fun e W h=>absurd h e))<|oc (ok_guard 31 (farK 0 (pps A) y.p (k)) (by kernel_rfl) iiz (fun e=>gd_imp [] ((UF.eq r).toSF) (fnz) (fun _ _ h _=>h) (by kernel_rfl) (ok_move)) (fun e W h=>absurd h e))<|oc (ok_guard 31 (farK 0 (pps A) y.p (k)) (by kernel_rfl) iiz (fun e=>gd_imp [] ((UF.eq (.int .i64 (((k:Nat):Int)))).toSF) (fnz) (fun _ _ h _=>h) (by kernel_rfl) (ok_move)) (fun e W h=>absurd h e))<|oc (ok_guard 31 (farK 0 (pps A) y.p (k)) (by kernel_rfl) iiz (fun e=>gd_imp [(34,(UF.eq r).toSF),(35,(UF.eq (.int .i64 (((k:Nat):Int)))).toSF)] (SF.ptr (CU.agg (fPV (80) ((at_ (pps A) k)))).cf) (fmz ⟨fun v W h=>imp_app (c:=(farK 0 (pps A) y.p (k))=true) (f:=(UF.eq r).toSF) e h,fmz ⟨fun v W h=>imp_app (c:=(farK 0 (pps A) y.p (k))=true) (f:=(UF.eq (.int .i64 (((k:Nat):Int)))).toSF) e h,fnz⟩⟩) (fun _ _ h _=>h) (by kernel_rfl) (ok_indexB (z:=6) (Cs:=pvs (80) (pps A)) (i:=k) (C:=CU.agg (fPV (80) ((at_ (pps A) k)))) (by kernel_rfl) (pvs_get hk) (fun v W hb h=>(by rw [show _=r from h];exact (SF.row 6 (pvs (80) (pps A))).st _ _ _ hA (s.up hb))) iiz)) (fun e W h=>absurd h e))<|oc (ok_guard 31 (farK 0 (pps A) y.p (k)) (by kernel_rfl) iiz (fun e=>gd_imp [(36,SF.ptr (CU.agg (fPV (80) ((at_ (pps A) k)))).cf)] (SF.ptr ((CU.agg (fPV (80) ((at_ (pps A) k)))).cf.at 0)) (fmz ⟨fun v W h=>imp_app (c:=(farK 0 (pps A) y.p (k))=true) (f:=SF.ptr (CU.agg (fPV (80) ((at_ (pps A) k)))).cf) e h,fnz⟩) (fun _ _ h _=>h) (by kernel_rfl) (ok_fld (C:=(CU.agg (fPV (80) ((at_ (pps A) k)))).cf) 0 (by kernel_rfl))) (fun e W h=>absurd h e))<|oc (ok_guard 31 (farK 0 (pps A) y.p (k)) (by kernel_rfl) iiz (fun e=>gd_imp [(37,SF.ptr ((CU.agg (fPV (80) ((at_ (pps A) k)))).cf.at 0))] ((fRV (80) (((at_ (pps A) k)).1)).toSF) (fmz ⟨fun v W h=>imp_app (c:=(farK 0 (pps A) y.p (k))=true) (f:=SF.ptr ((CU.agg (fPV (80) ((at_ (pps A) k)))).cf.at 0)) e h,fnz⟩) (fun _ _ h _=>h) (by kernel_rfl) (ok_ldA (C:=(CU.agg (fPV (80) ((at_ (pps A) k)))).cf) (k:=0) 3 (by kernel_rfl) (h:=pt_x))) (fun e W h=>absurd h e))<|oc (ok_guard 31 (farK 0 (pps A) y.p (k)) (by kernel_rfl) iiz (fun e=>gd_imp [(33,(fRV (80) ((y.p).1)).toSF),(38,(fRV (80) (((at_ (pps A) k)).1)).toSF)] ((UF.eq (.int .i64 (qsg (y.p).1 ((at_ (pps A) k)).1))).toSF) (fmz ⟨fun v W h=>imp_app (c:=(farK 0 (pps A) y.p (k))=true) (f:=(fRV (80) ((y.p).1)).toSF) e h,fmz ⟨fun v W h=>imp_app (c:=(farK 0 (pps A) y.p (k))=true) (f:=(fRV (80) (((at_ (pps A) k)).1)).toSF) e h,fnz⟩⟩) (fun _ _ h _=>h) (by kernel_rfl) (ok_call2 wide_wide en_43 (fun u0 u1 W hb (h0:RVp (80) ((y.p).1) u0 W) (h1:RVp (80) (((at_ (pps A) k)).1) u1 W)=>r7cmp_q (m:=80) h0 h1 (by decide) (by decide)))) (fun e W h=>absurd h e))<|oc (ok_guard 31 (farK 0 (pps A) y.p (k)) (by kernel_rfl) iiz (fun e=>gd_imp [(39,(UF.eq (.int .i64 (qsg (y.p).1 ((at_ (pps A) k)).1))).toSF)] ((UF.eq (.bool (decide (qsg (y.p).1 ((at_ (pps A) k)).1<0)))).toSF) (fmz ⟨fun v W h=>imp_app (c:=(farK 0 (pps A) y.p (k))=true) (f:=(UF.eq (.int .i64 (qsg (y.p).1 ((at_ (pps A) k)).1))).toSF) e h,fnz⟩) (fun _ _ h _=>h) (by kernel_rfl) (ok_cmpI .i64 (qsg (y.p).1 ((at_ (pps A) k)).1) (0) (decide (qsg (y.p).1 ((at_ (pps A) k)).1<0)) iiz iiz rfl rfl)) (fun e W h=>absurd h e))<|oc (ok_pick (farK 0 (pps A) y.p (k)) iiz (fun e v W h=>pick_and (imp_app e h) e) (fun e v W h=>pick_and' h e))<|obs_nil) fun Q' hQ a w10 s=> ?_
   refine t_set (UF.eq (.bool (farK 0 (pps A) y.p (k+1)))) rfl s (by kernel_rfl) (fun _ _ h=>by rw [farK_succ hk];exact h) fun a w s=> ?_
   refine tail_end rfl (hQ _ _ ?_)
   refine wpIn_seq ?_
   refine region_goPS (K:= [(5, .u (UF.eq (.bool (farK 0 (pps A) y.p (k+1))))),(41, .u (UF.eq (.bool ((farK 0 (pps A) y.p (k))&&(decide (qsg (y.p).1 ((at_ (pps A) k)).1<0)))))),(27, .u (UF.eq (.bool (decide (((k:Nat):Int)<(((pvs (80) (pps A)).length:Nat):Int)))))),(0, .u (UF.eq r)),(9, .u (UF.eq (.int .i64 (((k:Nat):Int))))),(7, .u (UF.eq (.bool (farK 2 (pps A) y.p (k))))),(8, .u (UF.eq (.bool (farK 3 (pps A) y.p (k)))))]) [(6, .u (UF.eq (.bool (farK 1 (pps A) y.p (k)))))] [0] 12 ((42, .s ((UF.eq (.bool (farK 1 (pps A) y.p (k)))).toSF))::(43, .s ((UF.eq (.bool (farK 1 (pps A) y.p (k)))).toSF))::(44, .s (SF.imp ((farK 1 (pps A) y.p (k))=true) (SF.ptr ((PX.cu y).cf.at 0))))::(45, .s (SF.imp ((farK 1 (pps A) y.p (k))=true) ((fRV (80) ((y.p).1)).toSF)))::(46, .s (SF.imp ((farK 1 (pps A) y.p (k))=true) ((UF.eq r).toSF)))::(47, .s (SF.imp ((farK 1 (pps A) y.p (k))=true) ((UF.eq (.int .i64 (((k:Nat):Int)))).toSF)))::(48, .s (SF.imp ((farK 1 (pps A) y.p (k))=true) (SF.ptr (CU.agg (fPV (80) ((at_ (pps A) k)))).cf)))::(49, .s (SF.imp ((farK 1 (pps A) y.p (k))=true) (SF.ptr ((CU.agg (fPV (80) ((at_ (pps A) k)))).cf.at 0))))::(50, .s (SF.imp ((farK 1 (pps A) y.p (k))=true) ((fRV (80) (((at_ (pps A) k)).1)).toSF)))::(51, .s (SF.imp ((farK 1 (pps A) y.p (k))=true) ((UF.eq (.int .i64 (qsg (y.p).1 ((at_ (pps A) k)).1))).toSF)))::(52, .s (SF.imp ((farK 1 (pps A) y.p (k))=true) ((UF.eq (.bool (decide (qsg (y.p).1 ((at_ (pps A) k)).1>0)))).toSF)))::(53, .u (UF.eq (.bool ((farK 1 (pps A) y.p (k))&&(decide (qsg (y.p).1 ((at_ (pps A) k)).1>0)))))):: []) hmix (s.keepK _ (fmz ⟨mz5,fmz ⟨.head _,fmz ⟨mz1,fmz ⟨mz2,fmz ⟨mz3,fmz ⟨mz4,fmz ⟨mz6,fmz ⟨mz7,fnz⟩⟩⟩⟩⟩⟩⟩⟩)) (by kernel_rfl)
    (oc ok_move<|oc ok_move<|oc (ok_guard 43 (farK 1 (pps A) y.p (k)) (by kernel_rfl) iiz (fun e=>gd_imp [] (SF.ptr ((PX.cu y).cf.at 0)) (fnz) (fun _ _ h _=>h) (by kernel_rfl) (ok_fld (C:=(PX.cu y).cf) 0 (by kernel_rfl))) (fun e W h=>absurd h e))<|oc (ok_guard 43 (farK 1 (pps A) y.p (k)) (by kernel_rfl) iiz (fun e=>gd_imp [(44,SF.ptr ((PX.cu y).cf.at 0))] ((fRV (80) ((y.p).1)).toSF) (fmz ⟨fun v W h=>imp_app (c:=(farK 1 (pps A) y.p (k))=true) (f:=SF.ptr ((PX.cu y).cf.at 0)) e h,fnz⟩) (fun _ _ h _=>h) (by kernel_rfl) (ok_ldA (C:=(PX.cu y).cf) (k:=0) 3 (by kernel_rfl) (h:=px_x80 hy80))) (fun e W h=>absurd h e))<|oc (ok_guard 43 (farK 1 (pps A) y.p (k)) (by kernel_rfl) iiz (fun e=>gd_imp [] ((UF.eq r).toSF) (fnz) (fun _ _ h _=>h) (by kernel_rfl) (ok_move)) (fun e W h=>absurd h e))<|oc (ok_guard 43 (farK 1 (pps A) y.p (k)) (by kernel_rfl) iiz (fun e=>gd_imp [] ((UF.eq (.int .i64 (((k:Nat):Int)))).toSF) (fnz) (fun _ _ h _=>h) (by kernel_rfl) (ok_move)) (fun e W h=>absurd h e))<|oc (ok_guard 43 (farK 1 (pps A) y.p (k)) (by kernel_rfl) iiz (fun e=>gd_imp [(46,(UF.eq r).toSF),(47,(UF.eq (.int .i64 (((k:Nat):Int)))).toSF)] (SF.ptr (CU.agg (fPV (80) ((at_ (pps A) k)))).cf) (fmz ⟨fun v W h=>imp_app (c:=(farK 1 (pps A) y.p (k))=true) (f:=(UF.eq r).toSF) e h,fmz ⟨fun v W h=>imp_app (c:=(farK 1 (pps A) y.p (k))=true) (f:=(UF.eq (.int .i64 (((k:Nat):Int)))).toSF) e h,fnz⟩⟩) (fun _ _ h _=>h) (by kernel_rfl) (ok_indexB (z:=6) (Cs:=pvs (80) (pps A)) (i:=k) (C:=CU.agg (fPV (80) ((at_ (pps A) k)))) (by kernel_rfl) (pvs_get hk) (fun v W hb h=>(by rw [show _=r from h];exact (SF.row 6 (pvs (80) (pps A))).st _ _ _ hA (s.up hb))) iiz)) (fun e W h=>absurd h e))<|oc (ok_guard 43 (farK 1 (pps A) y.p (k)) (by kernel_rfl) iiz (fun e=>gd_imp [(48,SF.ptr (CU.agg (fPV (80) ((at_ (pps A) k)))).cf)] (SF.ptr ((CU.agg (fPV (80) ((at_ (pps A) k)))).cf.at 0)) (fmz ⟨fun v W h=>imp_app (c:=(farK 1 (pps A) y.p (k))=true) (f:=SF.ptr (CU.agg (fPV (80) ((at_ (pps A) k)))).cf) e h,fnz⟩) (fun _ _ h _=>h) (by kernel_rfl) (ok_fld (C:=(CU.agg (fPV (80) ((at_ (pps A) k)))).cf) 0 (by kernel_rfl))) (fun e W h=>absurd h e))<|oc (ok_guard 43 (farK 1 (pps A) y.p (k)) (by kernel_rfl) iiz (fun e=>gd_imp [(49,SF.ptr ((CU.agg (fPV (80) ((at_ (pps A) k)))).cf.at 0))] ((fRV (80) (((at_ (pps A) k)).1)).toSF) (fmz ⟨fun v W h=>imp_app (c:=(farK 1 (pps A) y.p (k))=true) (f:=SF.ptr ((CU.agg (fPV (80) ((at_ (pps A) k)))).cf.at 0)) e h,fnz⟩) (fun _ _ h _=>h) (by kernel_rfl) (ok_ldA (C:=(CU.agg (fPV (80) ((at_ (pps A) k)))).cf) (k:=0) 3 (by kernel_rfl) (h:=pt_x))) (fun e W h=>absurd h e))<|oc (ok_guard 43 (farK 1 (pps A) y.p (k)) (by kernel_rfl) iiz (fun e=>gd_imp [(45,(fRV (80) ((y.p).1)).toSF),(50,(fRV (80) (((at_ (pps A) k)).1)).toSF)] ((UF.eq (.int .i64 (qsg (y.p).1 ((at_ (pps A) k)).1))).toSF) (fmz ⟨fun v W h=>imp_app (c:=(farK 1 (pps A) y.p (k))=true) (f:=(fRV (80) ((y.p).1)).toSF) e h,fmz ⟨fun v W h=>imp_app (c:=(farK 1 (pps A) y.p (k))=true) (f:=(fRV (80) (((at_ (pps A) k)).1)).toSF) e h,fnz⟩⟩) (fun _ _ h _=>h) (by kernel_rfl) (ok_call2 wide_wide en_43 (fun u0 u1 W hb (h0:RVp (80) ((y.p).1) u0 W) (h1:RVp (80) (((at_ (pps A) k)).1) u1 W)=>r7cmp_q (m:=80) h0 h1 (by decide) (by decide)))) (fun e W h=>absurd h e))<|oc (ok_guard 43 (farK 1 (pps A) y.p (k)) (by kernel_rfl) iiz (fun e=>gd_imp [(51,(UF.eq (.int .i64 (qsg (y.p).1 ((at_ (pps A) k)).1))).toSF)] ((UF.eq (.bool (decide (qsg (y.p).1 ((at_ (pps A) k)).1>0)))).toSF) (fmz ⟨fun v W h=>imp_app (c:=(farK 1 (pps A) y.p (k))=true) (f:=(UF.eq (.int .i64 (qsg (y.p).1 ((at_ (pps A) k)).1))).toSF) e h,fnz⟩) (fun _ _ h _=>h) (by kernel_rfl) (ok_cmpI .i64 (qsg (y.p).1 ((at_ (pps A) k)).1) (0) (decide (qsg (y.p).1 ((at_ (pps A) k)).1>0)) iiz iiz rfl rfl)) (fun e W h=>absurd h e))<|oc (ok_pick (farK 1 (pps A) y.p (k)) iiz (fun e v W h=>pick_and (imp_app e h) e) (fun e v W h=>pick_and' h e))<|obs_nil) fun Q' hQ a w11 s=> ?_
   refine t_set (UF.eq (.bool (farK 1 (pps A) y.p (k+1)))) rfl s (by kernel_rfl) (fun _ _ h=>by rw [farK_succ hk];exact h) fun a w s=> ?_
   refine tail_end rfl (hQ _ _ ?_)
   refine wpIn_seq ?_
   refine region_goPS (K:= [(6, .u (UF.eq (.bool (farK 1 (pps A) y.p (k+1))))),(53, .u (UF.eq (.bool ((farK 1 (pps A) y.p (k))&&(decide (qsg (y.p).1 ((at_ (pps A) k)).1>0)))))),(5, .u (UF.eq (.bool (farK 0 (pps A) y.p (k+1))))),(41, .u (UF.eq (.bool ((farK 0 (pps A) y.p (k))&&(decide (qsg (y.p).1 ((at_ (pps A) k)).1<0)))))),(27, .u (UF.eq (.bool (decide (((k:Nat):Int)<(((pvs (80) (pps A)).length:Nat):Int)))))),(0, .u (UF.eq r)),(9, .u (UF.eq (.int .i64 (((k:Nat):Int))))),(8, .u (UF.eq (.bool (farK 3 (pps A) y.p (k)))))]) [(7, .u (UF.eq (.bool (farK 2 (pps A) y.p (k)))))] [0] 12 ((54, .s ((UF.eq (.bool (farK 2 (pps A) y.p (k)))).toSF))::(55, .s ((UF.eq (.bool (farK 2 (pps A) y.p (k)))).toSF))::(56, .s (SF.imp ((farK 2 (pps A) y.p (k))=true) (SF.ptr ((PX.cu y).cf.at 3))))::(57, .s (SF.imp ((farK 2 (pps A) y.p (k))=true) ((fRV (80) ((y.p).2)).toSF)))::(58, .s (SF.imp ((farK 2 (pps A) y.p (k))=true) ((UF.eq r).toSF)))::(59, .s (SF.imp ((farK 2 (pps A) y.p (k))=true) ((UF.eq (.int .i64 (((k:Nat):Int)))).toSF)))::(60, .s (SF.imp ((farK 2 (pps A) y.p (k))=true) (SF.ptr (CU.agg (fPV (80) ((at_ (pps A) k)))).cf)))::(61, .s (SF.imp ((farK 2 (pps A) y.p (k))=true) (SF.ptr ((CU.agg (fPV (80) ((at_ (pps A) k)))).cf.at 3))))::(62, .s (SF.imp ((farK 2 (pps A) y.p (k))=true) ((fRV (80) (((at_ (pps A) k)).2)).toSF)))::(63, .s (SF.imp ((farK 2 (pps A) y.p (k))=true) ((UF.eq (.int .i64 (qsg (y.p).2 ((at_ (pps A) k)).2))).toSF)))::(64, .s (SF.imp ((farK 2 (pps A) y.p (k))=true) ((UF.eq (.bool (decide (qsg (y.p).2 ((at_ (pps A) k)).2<0)))).toSF)))::(65, .u (UF.eq (.bool ((farK 2 (pps A) y.p (k))&&(decide (qsg (y.p).2 ((at_ (pps A) k)).2<0)))))):: []) hmix (s.keepK _ (fmz ⟨mz7,fmz ⟨.head _,fmz ⟨mz1,fmz ⟨mz2,fmz ⟨mz3,fmz ⟨mz4,fmz ⟨mz5,fmz ⟨mz6,fmz ⟨mz8,fnz⟩⟩⟩⟩⟩⟩⟩⟩⟩)) (by kernel_rfl)
    (oc ok_move<|oc ok_move<|oc (ok_guard 55 (farK 2 (pps A) y.p (k)) (by kernel_rfl) iiz (fun e=>gd_imp [] (SF.ptr ((PX.cu y).cf.at 3)) (fnz) (fun _ _ h _=>h) (by kernel_rfl) (ok_fld (C:=(PX.cu y).cf) 3 (by kernel_rfl))) (fun e W h=>absurd h e))<|oc (ok_guard 55 (farK 2 (pps A) y.p (k)) (by kernel_rfl) iiz (fun e=>gd_imp [(56,SF.ptr ((PX.cu y).cf.at 3))] ((fRV (80) ((y.p).2)).toSF) (fmz ⟨fun v W h=>imp_app (c:=(farK 2 (pps A) y.p (k))=true) (f:=SF.ptr ((PX.cu y).cf.at 3)) e h,fnz⟩) (fun _ _ h _=>h) (by kernel_rfl) (ok_ldA (C:=(PX.cu y).cf) (k:=3) 3 (by kernel_rfl) (h:=px_y80 hy80))) (fun e W h=>absurd h e))<|oc (ok_guard 55 (farK 2 (pps A) y.p (k)) (by kernel_rfl) iiz (fun e=>gd_imp [] ((UF.eq r).toSF) (fnz) (fun _ _ h _=>h) (by kernel_rfl) (ok_move)) (fun e W h=>absurd h e))<|oc (ok_guard 55 (farK 2 (pps A) y.p (k)) (by kernel_rfl) iiz (fun e=>gd_imp [] ((UF.eq (.int .i64 (((k:Nat):Int)))).toSF) (fnz) (fun _ _ h _=>h) (by kernel_rfl) (ok_move)) (fun e W h=>absurd h e))<|oc (ok_guard 55 (farK 2 (pps A) y.p (k)) (by kernel_rfl) iiz (fun e=>gd_imp [(58,(UF.eq r).toSF),(59,(UF.eq (.int .i64 (((k:Nat):Int)))).toSF)] (SF.ptr (CU.agg (fPV (80) ((at_ (pps A) k)))).cf) (fmz ⟨fun v W h=>imp_app (c:=(farK 2 (pps A) y.p (k))=true) (f:=(UF.eq r).toSF) e h,fmz ⟨fun v W h=>imp_app (c:=(farK 2 (pps A) y.p (k))=true) (f:=(UF.eq (.int .i64 (((k:Nat):Int)))).toSF) e h,fnz⟩⟩) (fun _ _ h _=>h) (by kernel_rfl) (ok_indexB (z:=6) (Cs:=pvs (80) (pps A)) (i:=k) (C:=CU.agg (fPV (80) ((at_ (pps A) k)))) (by kernel_rfl) (pvs_get hk) (fun v W hb h=>(by rw [show _=r from h];exact (SF.row 6 (pvs (80) (pps A))).st _ _ _ hA (s.up hb))) iiz)) (fun e W h=>absurd h e))<|oc (ok_guard 55 (farK 2 (pps A) y.p (k)) (by kernel_rfl) iiz (fun e=>gd_imp [(60,SF.ptr (CU.agg (fPV (80) ((at_ (pps A) k)))).cf)] (SF.ptr ((CU.agg (fPV (80) ((at_ (pps A) k)))).cf.at 3)) (fmz ⟨fun v W h=>imp_app (c:=(farK 2 (pps A) y.p (k))=true) (f:=SF.ptr (CU.agg (fPV (80) ((at_ (pps A) k)))).cf) e h,fnz⟩) (fun _ _ h _=>h) (by kernel_rfl) (ok_fld (C:=(CU.agg (fPV (80) ((at_ (pps A) k)))).cf) 3 (by kernel_rfl))) (fun e W h=>absurd h e))<|oc (ok_guard 55 (farK 2 (pps A) y.p (k)) (by kernel_rfl) iiz (fun e=>gd_imp [(61,SF.ptr ((CU.agg (fPV (80) ((at_ (pps A) k)))).cf.at 3))] ((fRV (80) (((at_ (pps A) k)).2)).toSF) (fmz ⟨fun v W h=>imp_app (c:=(farK 2 (pps A) y.p (k))=true) (f:=SF.ptr ((CU.agg (fPV (80) ((at_ (pps A) k)))).cf.at 3)) e h,fnz⟩) (fun _ _ h _=>h) (by kernel_rfl) (ok_ldA (C:=(CU.agg (fPV (80) ((at_ (pps A) k)))).cf) (k:=3) 3 (by kernel_rfl) (h:=pt_y))) (fun e W h=>absurd h e))<|oc (ok_guard 55 (farK 2 (pps A) y.p (k)) (by kernel_rfl) iiz (fun e=>gd_imp [(57,(fRV (80) ((y.p).2)).toSF),(62,(fRV (80) (((at_ (pps A) k)).2)).toSF)] ((UF.eq (.int .i64 (qsg (y.p).2 ((at_ (pps A) k)).2))).toSF) (fmz ⟨fun v W h=>imp_app (c:=(farK 2 (pps A) y.p (k))=true) (f:=(fRV (80) ((y.p).2)).toSF) e h,fmz ⟨fun v W h=>imp_app (c:=(farK 2 (pps A) y.p (k))=true) (f:=(fRV (80) (((at_ (pps A) k)).2)).toSF) e h,fnz⟩⟩) (fun _ _ h _=>h) (by kernel_rfl) (ok_call2 wide_wide en_43 (fun u0 u1 W hb (h0:RVp (80) ((y.p).2) u0 W) (h1:RVp (80) (((at_ (pps A) k)).2) u1 W)=>r7cmp_q (m:=80) h0 h1 (by decide) (by decide)))) (fun e W h=>absurd h e))<|oc (ok_guard 55 (farK 2 (pps A) y.p (k)) (by kernel_rfl) iiz (fun e=>gd_imp [(63,(UF.eq (.int .i64 (qsg (y.p).2 ((at_ (pps A) k)).2))).toSF)] ((UF.eq (.bool (decide (qsg (y.p).2 ((at_ (pps A) k)).2<0)))).toSF) (fmz ⟨fun v W h=>imp_app (c:=(farK 2 (pps A) y.p (k))=true) (f:=(UF.eq (.int .i64 (qsg (y.p).2 ((at_ (pps A) k)).2))).toSF) e h,fnz⟩) (fun _ _ h _=>h) (by kernel_rfl) (ok_cmpI .i64 (qsg (y.p).2 ((at_ (pps A) k)).2) (0) (decide (qsg (y.p).2 ((at_ (pps A) k)).2<0)) iiz iiz rfl rfl)) (fun e W h=>absurd h e))<|oc (ok_pick (farK 2 (pps A) y.p (k)) iiz (fun e v W h=>pick_and (imp_app e h) e) (fun e v W h=>pick_and' h e))<|obs_nil) fun Q' hQ a w12 s=> ?_
   refine t_set (UF.eq (.bool (farK 2 (pps A) y.p (k+1)))) rfl s (by kernel_rfl) (fun _ _ h=>by rw [farK_succ hk];exact h) fun a w s=> ?_
   refine tail_end rfl (hQ _ _ ?_)
   refine region_goPS (K:= [(7, .u (UF.eq (.bool (farK 2 (pps A) y.p (k+1))))),(65, .u (UF.eq (.bool ((farK 2 (pps A) y.p (k))&&(decide (qsg (y.p).2 ((at_ (pps A) k)).2<0)))))),(6, .u (UF.eq (.bool (farK 1 (pps A) y.p (k+1))))),(53, .u (UF.eq (.bool ((farK 1 (pps A) y.p (k))&&(decide (qsg (y.p).1 ((at_ (pps A) k)).1>0)))))),(5, .u (UF.eq (.bool (farK 0 (pps A) y.p (k+1))))),(41, .u (UF.eq (.bool ((farK 0 (pps A) y.p (k))&&(decide (qsg (y.p).1 ((at_ (pps A) k)).1<0)))))),(27, .u (UF.eq (.bool (decide (((k:Nat):Int)<(((pvs (80) (pps A)).length:Nat):Int)))))),(0, .u (UF.eq r)),(9, .u (UF.eq (.int .i64 (((k:Nat):Int)))))]) [(8, .u (UF.eq (.bool (farK 3 (pps A) y.p (k)))))] [0] 12 ((66, .s ((UF.eq (.bool (farK 3 (pps A) y.p (k)))).toSF))::(67, .s ((UF.eq (.bool (farK 3 (pps A) y.p (k)))).toSF))::(68, .s (SF.imp ((farK 3 (pps A) y.p (k))=true) (SF.ptr ((PX.cu y).cf.at 3))))::(69, .s (SF.imp ((farK 3 (pps A) y.p (k))=true) ((fRV (80) ((y.p).2)).toSF)))::(70, .s (SF.imp ((farK 3 (pps A) y.p (k))=true) ((UF.eq r).toSF)))::(71, .s (SF.imp ((farK 3 (pps A) y.p (k))=true) ((UF.eq (.int .i64 (((k:Nat):Int)))).toSF)))::(72, .s (SF.imp ((farK 3 (pps A) y.p (k))=true) (SF.ptr (CU.agg (fPV (80) ((at_ (pps A) k)))).cf)))::(73, .s (SF.imp ((farK 3 (pps A) y.p (k))=true) (SF.ptr ((CU.agg (fPV (80) ((at_ (pps A) k)))).cf.at 3))))::(74, .s (SF.imp ((farK 3 (pps A) y.p (k))=true) ((fRV (80) (((at_ (pps A) k)).2)).toSF)))::(75, .s (SF.imp ((farK 3 (pps A) y.p (k))=true) ((UF.eq (.int .i64 (qsg (y.p).2 ((at_ (pps A) k)).2))).toSF)))::(76, .s (SF.imp ((farK 3 (pps A) y.p (k))=true) ((UF.eq (.bool (decide (qsg (y.p).2 ((at_ (pps A) k)).2>0)))).toSF)))::(77, .u (UF.eq (.bool ((farK 3 (pps A) y.p (k))&&(decide (qsg (y.p).2 ((at_ (pps A) k)).2>0)))))):: []) hmix (s.keepK _ (fmz ⟨mz9,fmz ⟨.head _,fmz ⟨mz1,fmz ⟨mz2,fmz ⟨mz3,fmz ⟨mz4,fmz ⟨mz5,fmz ⟨mz6,fmz ⟨mz7,fmz ⟨mz8,fnz⟩⟩⟩⟩⟩⟩⟩⟩⟩⟩)) (by kernel_rfl)
    (oc ok_move<|oc ok_move<|oc (ok_guard 67 (farK 3 (pps A) y.p (k)) (by kernel_rfl) iiz (fun e=>gd_imp [] (SF.ptr ((PX.cu y).cf.at 3)) (fnz) (fun _ _ h _=>h) (by kernel_rfl) (ok_fld (C:=(PX.cu y).cf) 3 (by kernel_rfl))) (fun e W h=>absurd h e))<|oc (ok_guard 67 (farK 3 (pps A) y.p (k)) (by kernel_rfl) iiz (fun e=>gd_imp [(68,SF.ptr ((PX.cu y).cf.at 3))] ((fRV (80) ((y.p).2)).toSF) (fmz ⟨fun v W h=>imp_app (c:=(farK 3 (pps A) y.p (k))=true) (f:=SF.ptr ((PX.cu y).cf.at 3)) e h,fnz⟩) (fun _ _ h _=>h) (by kernel_rfl) (ok_ldA (C:=(PX.cu y).cf) (k:=3) 3 (by kernel_rfl) (h:=px_y80 hy80))) (fun e W h=>absurd h e))<|oc (ok_guard 67 (farK 3 (pps A) y.p (k)) (by kernel_rfl) iiz (fun e=>gd_imp [] ((UF.eq r).toSF) (fnz) (fun _ _ h _=>h) (by kernel_rfl) (ok_move)) (fun e W h=>absurd h e))<|oc (ok_guard 67 (farK 3 (pps A) y.p (k)) (by kernel_rfl) iiz (fun e=>gd_imp [] ((UF.eq (.int .i64 (((k:Nat):Int)))).toSF) (fnz) (fun _ _ h _=>h) (by kernel_rfl) (ok_move)) (fun e W h=>absurd h e))<|oc (ok_guard 67 (farK 3 (pps A) y.p (k)) (by kernel_rfl) iiz (fun e=>gd_imp [(70,(UF.eq r).toSF),(71,(UF.eq (.int .i64 (((k:Nat):Int)))).toSF)] (SF.ptr (CU.agg (fPV (80) ((at_ (pps A) k)))).cf) (fmz ⟨fun v W h=>imp_app (c:=(farK 3 (pps A) y.p (k))=true) (f:=(UF.eq r).toSF) e h,fmz ⟨fun v W h=>imp_app (c:=(farK 3 (pps A) y.p (k))=true) (f:=(UF.eq (.int .i64 (((k:Nat):Int)))).toSF) e h,fnz⟩⟩) (fun _ _ h _=>h) (by kernel_rfl) (ok_indexB (z:=6) (Cs:=pvs (80) (pps A)) (i:=k) (C:=CU.agg (fPV (80) ((at_ (pps A) k)))) (by kernel_rfl) (pvs_get hk) (fun v W hb h=>(by rw [show _=r from h];exact (SF.row 6 (pvs (80) (pps A))).st _ _ _ hA (s.up hb))) iiz)) (fun e W h=>absurd h e))<|oc (ok_guard 67 (farK 3 (pps A) y.p (k)) (by kernel_rfl) iiz (fun e=>gd_imp [(72,SF.ptr (CU.agg (fPV (80) ((at_ (pps A) k)))).cf)] (SF.ptr ((CU.agg (fPV (80) ((at_ (pps A) k)))).cf.at 3)) (fmz ⟨fun v W h=>imp_app (c:=(farK 3 (pps A) y.p (k))=true) (f:=SF.ptr (CU.agg (fPV (80) ((at_ (pps A) k)))).cf) e h,fnz⟩) (fun _ _ h _=>h) (by kernel_rfl) (ok_fld (C:=(CU.agg (fPV (80) ((at_ (pps A) k)))).cf) 3 (by kernel_rfl))) (fun e W h=>absurd h e))<|oc (ok_guard 67 (farK 3 (pps A) y.p (k)) (by kernel_rfl) iiz (fun e=>gd_imp [(73,SF.ptr ((CU.agg (fPV (80) ((at_ (pps A) k)))).cf.at 3))] ((fRV (80) (((at_ (pps A) k)).2)).toSF) (fmz ⟨fun v W h=>imp_app (c:=(farK 3 (pps A) y.p (k))=true) (f:=SF.ptr ((CU.agg (fPV (80) ((at_ (pps A) k)))).cf.at 3)) e h,fnz⟩) (fun _ _ h _=>h) (by kernel_rfl) (ok_ldA (C:=(CU.agg (fPV (80) ((at_ (pps A) k)))).cf) (k:=3) 3 (by kernel_rfl) (h:=pt_y))) (fun e W h=>absurd h e))<|oc (ok_guard 67 (farK 3 (pps A) y.p (k)) (by kernel_rfl) iiz (fun e=>gd_imp [(69,(fRV (80) ((y.p).2)).toSF),(74,(fRV (80) (((at_ (pps A) k)).2)).toSF)] ((UF.eq (.int .i64 (qsg (y.p).2 ((at_ (pps A) k)).2))).toSF) (fmz ⟨fun v W h=>imp_app (c:=(farK 3 (pps A) y.p (k))=true) (f:=(fRV (80) ((y.p).2)).toSF) e h,fmz ⟨fun v W h=>imp_app (c:=(farK 3 (pps A) y.p (k))=true) (f:=(fRV (80) (((at_ (pps A) k)).2)).toSF) e h,fnz⟩⟩) (fun _ _ h _=>h) (by kernel_rfl) (ok_call2 wide_wide en_43 (fun u0 u1 W hb (h0:RVp (80) ((y.p).2) u0 W) (h1:RVp (80) (((at_ (pps A) k)).2) u1 W)=>r7cmp_q (m:=80) h0 h1 (by decide) (by decide)))) (fun e W h=>absurd h e))<|oc (ok_guard 67 (farK 3 (pps A) y.p (k)) (by kernel_rfl) iiz (fun e=>gd_imp [(75,(UF.eq (.int .i64 (qsg (y.p).2 ((at_ (pps A) k)).2))).toSF)] ((UF.eq (.bool (decide (qsg (y.p).2 ((at_ (pps A) k)).2>0)))).toSF) (fmz ⟨fun v W h=>imp_app (c:=(farK 3 (pps A) y.p (k))=true) (f:=(UF.eq (.int .i64 (qsg (y.p).2 ((at_ (pps A) k)).2))).toSF) e h,fnz⟩) (fun _ _ h _=>h) (by kernel_rfl) (ok_cmpI .i64 (qsg (y.p).2 ((at_ (pps A) k)).2) (0) (decide (qsg (y.p).2 ((at_ (pps A) k)).2>0)) iiz iiz rfl rfl)) (fun e W h=>absurd h e))<|oc (ok_pick (farK 3 (pps A) y.p (k)) iiz (fun e v W h=>pick_and (imp_app e h) e) (fun e v W h=>pick_and' h e))<|obs_nil) fun Q' hQ a w13 s=> ?_
   refine t_set (UF.eq (.bool (farK 3 (pps A) y.p (k+1)))) rfl s (by kernel_rfl) (fun _ _ h=>by rw [farK_succ hk];exact h) fun a w s=> ?_
   refine tail_end rfl (hQ _ _ ?_)
   refine region_goS 2 ((28, .s ((UF.eq (.int .i64 (((k:Nat):Int)))).toSF))::(29, .u (UF.eq (.int .i64 (((k+1:Nat):Int))))):: []) s (by kernel_rfl)
    (oc ok_move<|oc (ok_addI .i64 (((k:Nat):Int)) (1) (((k+1:Nat):Int)) iiz iiz (wrap64 _ _ (by omega) (by omega)))<|obs_nil) fun a w14 s=> ?_
   replace s:=s.drop [9]
   refine t_set (UF.eq (.int .i64 (((k+1:Nat):Int)))) rfl s (by kernel_rfl) iiz fun a w s=> ?_
   refine tail_end rfl ?_
   exact ⟨by omega,s.keepK _ (fmz ⟨mz11,fmz ⟨.head _,fmz ⟨mz8,fmz ⟨mz6,fmz ⟨mz4,fmz ⟨mz2,fnz⟩⟩⟩⟩⟩⟩)⟩
  ·have hkN:k=(pps A).length:=by have h7:=of_decide_eq_false e;simp at h7 hk ⊢;omega
   refine wpIn_exit ?_
   refine wpIn_seq ?_
   refine region_go 11 ((78, .s ((UF.eq (.bool (farK 0 (pps A) y.p (k)))).toSF))::(79, .s ((UF.eq (.bool (farK 0 (pps A) y.p (k)))).toSF))::(80, .s (SF.imp ((farK 0 (pps A) y.p (k))=false) ((UF.eq (.bool (farK 1 (pps A) y.p (k)))).toSF)))::(81, .s ((UF.eq (.bool ((farK 0 (pps A) y.p (k))||(farK 1 (pps A) y.p (k))))).toSF))::(82, .s ((UF.eq (.bool ((farK 0 (pps A) y.p (k))||(farK 1 (pps A) y.p (k))))).toSF))::(83, .s (SF.imp (((farK 0 (pps A) y.p (k))||(farK 1 (pps A) y.p (k)))=false) ((UF.eq (.bool (farK 2 (pps A) y.p (k)))).toSF)))::(84, .s ((UF.eq (.bool (((farK 0 (pps A) y.p (k))||(farK 1 (pps A) y.p (k)))||(farK 2 (pps A) y.p (k))))).toSF))::(85, .s ((UF.eq (.bool (((farK 0 (pps A) y.p (k))||(farK 1 (pps A) y.p (k)))||(farK 2 (pps A) y.p (k))))).toSF))::(86, .s (SF.imp ((((farK 0 (pps A) y.p (k))||(farK 1 (pps A) y.p (k)))||(farK 2 (pps A) y.p (k)))=false) ((UF.eq (.bool (farK 3 (pps A) y.p (k)))).toSF)))::(87, .s ((UF.eq (.bool ((((farK 0 (pps A) y.p (k))||(farK 1 (pps A) y.p (k)))||(farK 2 (pps A) y.p (k)))||(farK 3 (pps A) y.p (k))))).toSF))::(10, .u (UF.eq (.bool ((((farK 0 (pps A) y.p (k))||(farK 1 (pps A) y.p (k)))||(farK 2 (pps A) y.p (k)))||(farK 3 (pps A) y.p (k)))))):: []) hmix s (by kernel_rfl)
    (oc ok_move<|oc ok_move<|oc (ok_guard 79 (farK 0 (pps A) y.p (k)) (by kernel_rfl) iiz (fun e=>gd_imp [] ((UF.eq (.bool (farK 1 (pps A) y.p (k)))).toSF) (fnz) (fun _ _ h _=>h) (by kernel_rfl) (ok_move)) (fun e W h=>absurd h e))<|oc (ok_pick (farK 0 (pps A) y.p (k)) iiz (fun e v W h=>pick_or h e) (fun e v W h=>pick_or' (imp_app e h) e))<|oc ok_move<|oc (ok_guard 82 ((farK 0 (pps A) y.p (k))||(farK 1 (pps A) y.p (k))) (by kernel_rfl) iiz (fun e=>gd_imp [] ((UF.eq (.bool (farK 2 (pps A) y.p (k)))).toSF) (fnz) (fun _ _ h _=>h) (by kernel_rfl) (ok_move)) (fun e W h=>absurd h e))<|oc (ok_pick ((farK 0 (pps A) y.p (k))||(farK 1 (pps A) y.p (k))) iiz (fun e v W h=>pick_or h e) (fun e v W h=>pick_or' (imp_app e h) e))<|oc ok_move<|oc (ok_guard 85 (((farK 0 (pps A) y.p (k))||(farK 1 (pps A) y.p (k)))||(farK 2 (pps A) y.p (k))) (by kernel_rfl) iiz (fun e=>gd_imp [] ((UF.eq (.bool (farK 3 (pps A) y.p (k)))).toSF) (fnz) (fun _ _ h _=>h) (by kernel_rfl) (ok_move)) (fun e W h=>absurd h e))<|oc (ok_pick (((farK 0 (pps A) y.p (k))||(farK 1 (pps A) y.p (k)))||(farK 2 (pps A) y.p (k))) iiz (fun e v W h=>pick_or h e) (fun e v W h=>pick_or' (imp_app e h) e))<|oc (ok_assign)<|obs_nil) fun a w15 s=> ?_
   refine tail_end rfl ?_
   refine wpIn_seq ?_
   refine region_go 32 ((88, .s ((UF.eq (.bool ((((farK 0 (pps A) y.p (k))||(farK 1 (pps A) y.p (k)))||(farK 2 (pps A) y.p (k)))||(farK 3 (pps A) y.p (k))))).toSF))::(89, .s ((UF.eq (.bool (!((((farK 0 (pps A) y.p (k))||(farK 1 (pps A) y.p (k)))||(farK 2 (pps A) y.p (k)))||(farK 3 (pps A) y.p (k)))))).toSF))::(90, .s ((UF.eq (.bool (!((((farK 0 (pps A) y.p (k))||(farK 1 (pps A) y.p (k)))||(farK 2 (pps A) y.p (k)))||(farK 3 (pps A) y.p (k)))))).toSF))::(91, .s (SF.imp ((!((((farK 0 (pps A) y.p (k))||(farK 1 (pps A) y.p (k)))||(farK 2 (pps A) y.p (k)))||(farK 3 (pps A) y.p (k))))=false) ((fPV (80) (y.p)).toSF)))::(92, .s (SF.imp ((!((((farK 0 (pps A) y.p (k))||(farK 1 (pps A) y.p (k)))||(farK 2 (pps A) y.p (k)))||(farK 3 (pps A) y.p (k))))=false) ((UF.eq r).toSF)))::(93, .s (SF.imp ((!((((farK 0 (pps A) y.p (k))||(farK 1 (pps A) y.p (k)))||(farK 2 (pps A) y.p (k)))||(farK 3 (pps A) y.p (k))))=false) ((UF.eq (.int .i64 (whereV (pps A) y.p))).toSF)))::(94, .s (SF.imp ((!((((farK 0 (pps A) y.p (k))||(farK 1 (pps A) y.p (k)))||(farK 2 (pps A) y.p (k)))||(farK 3 (pps A) y.p (k))))=false) ((UF.eq (.bool (whereV (pps A) y.p== -1))).toSF)))::(95, .s ((UF.eq (.bool ((!((((farK 0 (pps A) y.p (k))||(farK 1 (pps A) y.p (k)))||(farK 2 (pps A) y.p (k)))||(farK 3 (pps A) y.p (k))))||(whereV (pps A) y.p== -1)))).toSF))::(96, .s ((UF.eq (.bool ((!((((farK 0 (pps A) y.p (k))||(farK 1 (pps A) y.p (k)))||(farK 2 (pps A) y.p (k)))||(farK 3 (pps A) y.p (k))))||(whereV (pps A) y.p== -1)))).toSF))::(97, .s (SF.imp (((!((((farK 0 (pps A) y.p (k))||(farK 1 (pps A) y.p (k)))||(farK 2 (pps A) y.p (k)))||(farK 3 (pps A) y.p (k))))||(whereV (pps A) y.p== -1))=true) ((fPV (80) (y.p)).toSF)))::(98, .s (SF.imp (((!((((farK 0 (pps A) y.p (k))||(farK 1 (pps A) y.p (k)))||(farK 2 (pps A) y.p (k)))||(farK 3 (pps A) y.p (k))))||(whereV (pps A) y.p== -1))=true) ((UF.eq (.int .i64 (-1))).toSF)))::(99, .s (SF.imp (((!((((farK 0 (pps A) y.p (k))||(farK 1 (pps A) y.p (k)))||(farK 2 (pps A) y.p (k)))||(farK 3 (pps A) y.p (k))))||(whereV (pps A) y.p== -1))=true) ((UF.eq (.bool true)).toSF)))::(100, .s ((UF.eq (.bool (((!((((farK 0 (pps A) y.p (k))||(farK 1 (pps A) y.p (k)))||(farK 2 (pps A) y.p (k)))||(farK 3 (pps A) y.p (k))))||(whereV (pps A) y.p== -1))&&true))).toSF))::(101, .s ((UF.eq (.bool (((!((((farK 0 (pps A) y.p (k))||(farK 1 (pps A) y.p (k)))||(farK 2 (pps A) y.p (k)))||(farK 3 (pps A) y.p (k))))||(whereV (pps A) y.p== -1))&&true))).toSF))::(102, .s (SF.imp ((((!((((farK 0 (pps A) y.p (k))||(farK 1 (pps A) y.p (k)))||(farK 2 (pps A) y.p (k)))||(farK 3 (pps A) y.p (k))))||(whereV (pps A) y.p== -1))&&true)=true) ((fPV (80) (y.p)).toSF)))::(103, .s (SF.imp ((((!((((farK 0 (pps A) y.p (k))||(farK 1 (pps A) y.p (k)))||(farK 2 (pps A) y.p (k)))||(farK 3 (pps A) y.p (k))))||(whereV (pps A) y.p== -1))&&true)=true) ((fPV (80) (y.p)).toSF)))::(104, .s (SF.imp ((((!((((farK 0 (pps A) y.p (k))||(farK 1 (pps A) y.p (k)))||(farK 2 (pps A) y.p (k)))||(farK 3 (pps A) y.p (k))))||(whereV (pps A) y.p== -1))&&true)=true) (SF.row 6 [CU.agg (fPV (80) (y.p))])))::(105, .s (SF.imp ((((!((((farK 0 (pps A) y.p (k))||(farK 1 (pps A) y.p (k)))||(farK 2 (pps A) y.p (k)))||(farK 3 (pps A) y.p (k))))||(whereV (pps A) y.p== -1))&&true)=true) ((UF.eq (.int .i64 (-1))).toSF)))::(106, .s (SF.imp ((((!((((farK 0 (pps A) y.p (k))||(farK 1 (pps A) y.p (k)))||(farK 2 (pps A) y.p (k)))||(farK 3 (pps A) y.p (k))))||(whereV (pps A) y.p== -1))&&true)=true) ((UF.eq (.bool true)).toSF)))::(107, .s ((UF.eq (.bool ((((!((((farK 0 (pps A) y.p (k))||(farK 1 (pps A) y.p (k)))||(farK 2 (pps A) y.p (k)))||(farK 3 (pps A) y.p (k))))||(whereV (pps A) y.p== -1))&&true)&&true))).toSF))::(108, .s ((UF.eq (.bool ((((!((((farK 0 (pps A) y.p (k))||(farK 1 (pps A) y.p (k)))||(farK 2 (pps A) y.p (k)))||(farK 3 (pps A) y.p (k))))||(whereV (pps A) y.p== -1))&&true)&&true))).toSF))::(109, .s (SF.imp (((((!((((farK 0 (pps A) y.p (k))||(farK 1 (pps A) y.p (k)))||(farK 2 (pps A) y.p (k)))||(farK 3 (pps A) y.p (k))))||(whereV (pps A) y.p== -1))&&true)&&true)=true) ((UF.eq r).toSF)))::(110, .s (SF.imp (((((!((((farK 0 (pps A) y.p (k))||(farK 1 (pps A) y.p (k)))||(farK 2 (pps A) y.p (k)))||(farK 3 (pps A) y.p (k))))||(whereV (pps A) y.p== -1))&&true)&&true)=true) ((UF.eq (.bool true)).toSF)))::(111, .s ((UF.eq (.bool (((((!((((farK 0 (pps A) y.p (k))||(farK 1 (pps A) y.p (k)))||(farK 2 (pps A) y.p (k)))||(farK 3 (pps A) y.p (k))))||(whereV (pps A) y.p== -1))&&true)&&true)&&true))).toSF))::(112, .s ((UF.eq (.bool (((((!((((farK 0 (pps A) y.p (k))||(farK 1 (pps A) y.p (k)))||(farK 2 (pps A) y.p (k)))||(farK 3 (pps A) y.p (k))))||(whereV (pps A) y.p== -1))&&true)&&true)&&true))).toSF))::(113, .s (SF.imp ((((((!((((farK 0 (pps A) y.p (k))||(farK 1 (pps A) y.p (k)))||(farK 2 (pps A) y.p (k)))||(farK 3 (pps A) y.p (k))))||(whereV (pps A) y.p== -1))&&true)&&true)&&true)=true) ((UF.eq r).toSF)))::(114, .s (SF.imp ((((((!((((farK 0 (pps A) y.p (k))||(farK 1 (pps A) y.p (k)))||(farK 2 (pps A) y.p (k)))||(farK 3 (pps A) y.p (k))))||(whereV (pps A) y.p== -1))&&true)&&true)&&true)=true) ((UF.eq (.bool true)).toSF)))::(115, .s ((UF.eq (.bool ((((((!((((farK 0 (pps A) y.p (k))||(farK 1 (pps A) y.p (k)))||(farK 2 (pps A) y.p (k)))||(farK 3 (pps A) y.p (k))))||(whereV (pps A) y.p== -1))&&true)&&true)&&true)&&true))).toSF))::(116, .s ((UF.eq (.bool ((((((!((((farK 0 (pps A) y.p (k))||(farK 1 (pps A) y.p (k)))||(farK 2 (pps A) y.p (k)))||(farK 3 (pps A) y.p (k))))||(whereV (pps A) y.p== -1))&&true)&&true)&&true)&&true))).toSF))::(117, .s (SF.imp (((((((!((((farK 0 (pps A) y.p (k))||(farK 1 (pps A) y.p (k)))||(farK 2 (pps A) y.p (k)))||(farK 3 (pps A) y.p (k))))||(whereV (pps A) y.p== -1))&&true)&&true)&&true)&&true)=true) ((UF.eq (.bool true)).toSF)))::(118, .s ((UF.eq (.bool (((((((!((((farK 0 (pps A) y.p (k))||(farK 1 (pps A) y.p (k)))||(farK 2 (pps A) y.p (k)))||(farK 3 (pps A) y.p (k))))||(whereV (pps A) y.p== -1))&&true)&&true)&&true)&&true)&&true))).toSF))::(4, .u (UF.eq (.bool (((((((!((((farK 0 (pps A) y.p (k))||(farK 1 (pps A) y.p (k)))||(farK 2 (pps A) y.p (k)))||(farK 3 (pps A) y.p (k))))||(whereV (pps A) y.p== -1))&&true)&&true)&&true)&&true)&&true)))):: []) hmix s (by kernel_rfl)
    (oc ok_move<|oc (ok_not ((((farK 0 (pps A) y.p (k))||(farK 1 (pps A) y.p (k)))||(farK 2 (pps A) y.p (k)))||(farK 3 (pps A) y.p (k))) iiz (fun _=>rfl))<|oc ok_move<|oc (ok_guard 90 (!((((farK 0 (pps A) y.p (k))||(farK 1 (pps A) y.p (k)))||(farK 2 (pps A) y.p (k)))||(farK 3 (pps A) y.p (k)))) (by kernel_rfl) iiz (fun e=>gd_imp [] ((fPV (80) (y.p)).toSF) (fnz) (fun _ _ h _=>h) (by kernel_rfl) (ok_loadA (C:=(PX.cu y).cf) 6 (by kernel_rfl) (fun _ _ h=>h.2) (px_whole80 hy80))) (fun e W h=>absurd h e))<|oc (ok_guard 90 (!((((farK 0 (pps A) y.p (k))||(farK 1 (pps A) y.p (k)))||(farK 2 (pps A) y.p (k)))||(farK 3 (pps A) y.p (k)))) (by kernel_rfl) iiz (fun e=>gd_imp [] ((UF.eq r).toSF) (fnz) (fun _ _ h _=>h) (by kernel_rfl) (ok_move)) (fun e W h=>absurd h e))<|oc (ok_guard 90 (!((((farK 0 (pps A) y.p (k))||(farK 1 (pps A) y.p (k)))||(farK 2 (pps A) y.p (k)))||(farK 3 (pps A) y.p (k)))) (by kernel_rfl) iiz (fun e=>gd_imp [(91,(fPV (80) (y.p)).toSF),(92,(UF.eq r).toSF)] ((UF.eq (.int .i64 (whereV (pps A) y.p))).toSF) (fmz ⟨fun v W h=>imp_app (c:=(!((((farK 0 (pps A) y.p (k))||(farK 1 (pps A) y.p (k)))||(farK 2 (pps A) y.p (k)))||(farK 3 (pps A) y.p (k))))=false) (f:=(fPV (80) (y.p)).toSF) e h,fmz ⟨fun v W h=>imp_app (c:=(!((((farK 0 (pps A) y.p (k))||(farK 1 (pps A) y.p (k)))||(farK 2 (pps A) y.p (k)))||(farK 3 (pps A) y.p (k))))=false) (f:=(UF.eq r).toSF) e h,fnz⟩⟩) (fun _ _ h _=>h) (by kernel_rfl) (ok_call2 wide_wide en_34 (fun u0 u1 W hb (h0:(fPV (80) (y.p)).p u0 W) (h1:u1=r)=>iwhere_p (m:=80) (p:=y.p) (ps:=pps A) h0 (by rw [show _=r from h1];exact (SF.row 6 (pvs (80) (pps A))).st _ _ _ hA (s.up hb)) (by decide) (by decide) hnA (hT.below (s.up hb))))) (fun e W h=>absurd h e))<|oc (ok_guard 90 (!((((farK 0 (pps A) y.p (k))||(farK 1 (pps A) y.p (k)))||(farK 2 (pps A) y.p (k)))||(farK 3 (pps A) y.p (k)))) (by kernel_rfl) iiz (fun e=>gd_imp [(93,(UF.eq (.int .i64 (whereV (pps A) y.p))).toSF)] ((UF.eq (.bool (whereV (pps A) y.p== -1))).toSF) (fmz ⟨fun v W h=>imp_app (c:=(!((((farK 0 (pps A) y.p (k))||(farK 1 (pps A) y.p (k)))||(farK 2 (pps A) y.p (k)))||(farK 3 (pps A) y.p (k))))=false) (f:=(UF.eq (.int .i64 (whereV (pps A) y.p))).toSF) e h,fnz⟩) (fun _ _ h _=>h) (by kernel_rfl) (ok_cmpI .i64 (whereV (pps A) y.p) (-1) (whereV (pps A) y.p== -1) iiz iiz rfl rfl)) (fun e W h=>absurd h e))<|oc (ok_pick (!((((farK 0 (pps A) y.p (k))||(farK 1 (pps A) y.p (k)))||(farK 2 (pps A) y.p (k)))||(farK 3 (pps A) y.p (k)))) iiz (fun e v W h=>pick_or h e) (fun e v W h=>pick_or' (imp_app e h) e))<|oc ok_move<|oc (ok_guard 96 ((!((((farK 0 (pps A) y.p (k))||(farK 1 (pps A) y.p (k)))||(farK 2 (pps A) y.p (k)))||(farK 3 (pps A) y.p (k))))||(whereV (pps A) y.p== -1)) (by kernel_rfl) iiz (fun e=>gd_imp [] ((fPV (80) (y.p)).toSF) (fnz) (fun _ _ h _=>h) (by kernel_rfl) (ok_loadA (C:=(PX.cu y).cf) 6 (by kernel_rfl) (fun _ _ h=>h.2) (px_whole80 hy80))) (fun e W h=>absurd h e))<|oc (ok_guard 96 ((!((((farK 0 (pps A) y.p (k))||(farK 1 (pps A) y.p (k)))||(farK 2 (pps A) y.p (k)))||(farK 3 (pps A) y.p (k))))||(whereV (pps A) y.p== -1)) (by kernel_rfl) iiz (fun e=>gd_imp [(97,(fPV (80) (y.p)).toSF)] ((UF.eq (.int .i64 (-1))).toSF) (fmz ⟨fun v W h=>imp_app (c:=((!((((farK 0 (pps A) y.p (k))||(farK 1 (pps A) y.p (k)))||(farK 2 (pps A) y.p (k)))||(farK 3 (pps A) y.p (k))))||(whereV (pps A) y.p== -1))=true) (f:=(fPV (80) (y.p)).toSF) e h,fnz⟩) (fun _ _ h _=>h) (by kernel_rfl) (ok_call2 wide_wide en_34 (fun u0 u1 W hb (h0:(fPV (80) (y.p)).p u0 W) (h1:u1= .slice none 0 0)=>(iwhere_p (m:=80) (p:=y.p) (ps:= []) h0 (by rw [show u1=_ from h1];exact row_nil 6 _) (by decide) (by decide) (by simp) (hT.below (s.up hb))).mono (Ret.to (fun v W h=>by rw [none_out] at h;exact h))))) (fun e W h=>absurd h e))<|oc (ok_guard 96 ((!((((farK 0 (pps A) y.p (k))||(farK 1 (pps A) y.p (k)))||(farK 2 (pps A) y.p (k)))||(farK 3 (pps A) y.p (k))))||(whereV (pps A) y.p== -1)) (by kernel_rfl) iiz (fun e=>gd_imp [(98,(UF.eq (.int .i64 (-1))).toSF)] ((UF.eq (.bool true)).toSF) (fmz ⟨fun v W h=>imp_app (c:=((!((((farK 0 (pps A) y.p (k))||(farK 1 (pps A) y.p (k)))||(farK 2 (pps A) y.p (k)))||(farK 3 (pps A) y.p (k))))||(whereV (pps A) y.p== -1))=true) (f:=(UF.eq (.int .i64 (-1))).toSF) e h,fnz⟩) (fun _ _ h _=>h) (by kernel_rfl) (ok_cmpI .i64 (-1) (-1) true iiz iiz (by rfl) rfl)) (fun e W h=>absurd h e))<|oc (ok_pick ((!((((farK 0 (pps A) y.p (k))||(farK 1 (pps A) y.p (k)))||(farK 2 (pps A) y.p (k)))||(farK 3 (pps A) y.p (k))))||(whereV (pps A) y.p== -1)) iiz (fun e v W h=>pick_and (imp_app e h) e) (fun e v W h=>pick_and' h e))<|oc ok_move<|oc (ok_guard 101 (((!((((farK 0 (pps A) y.p (k))||(farK 1 (pps A) y.p (k)))||(farK 2 (pps A) y.p (k)))||(farK 3 (pps A) y.p (k))))||(whereV (pps A) y.p== -1))&&true) (by kernel_rfl) iiz (fun e=>gd_imp [] ((fPV (80) (y.p)).toSF) (fnz) (fun _ _ h _=>h) (by kernel_rfl) (ok_loadA (C:=(PX.cu y).cf) 6 (by kernel_rfl) (fun _ _ h=>h.2) (px_whole80 hy80))) (fun e W h=>absurd h e))<|oc (ok_guard 101 (((!((((farK 0 (pps A) y.p (k))||(farK 1 (pps A) y.p (k)))||(farK 2 (pps A) y.p (k)))||(farK 3 (pps A) y.p (k))))||(whereV (pps A) y.p== -1))&&true) (by kernel_rfl) iiz (fun e=>gd_imp [] ((fPV (80) (y.p)).toSF) (fnz) (fun _ _ h _=>h) (by kernel_rfl) (ok_loadA (C:=(PX.cu y).cf) 6 (by kernel_rfl) (fun _ _ h=>h.2) (px_whole80 hy80))) (fun e W h=>absurd h e))<|oc (ok_guard 101 (((!((((farK 0 (pps A) y.p (k))||(farK 1 (pps A) y.p (k)))||(farK 2 (pps A) y.p (k)))||(farK 3 (pps A) y.p (k))))||(whereV (pps A) y.p== -1))&&true) (by kernel_rfl) iiz (fun e=>gd_imp [(103,(fPV (80) (y.p)).toSF)] (SF.row 6 [CU.agg (fPV (80) (y.p))]) (fmz ⟨fun v W h=>imp_app (c:=(((!((((farK 0 (pps A) y.p (k))||(farK 1 (pps A) y.p (k)))||(farK 2 (pps A) y.p (k)))||(farK 3 (pps A) y.p (k))))||(whereV (pps A) y.p== -1))&&true)=true) (f:=(fPV (80) (y.p)).toSF) e h,fnz⟩) (fun _ _ h _=>h) (by kernel_rfl) (ok_slice1 (fun u W (hu:(fPV (80) (y.p)).p u W)=>sl_pt1 hu))) (fun e W h=>absurd h e))<|oc (ok_guard 101 (((!((((farK 0 (pps A) y.p (k))||(farK 1 (pps A) y.p (k)))||(farK 2 (pps A) y.p (k)))||(farK 3 (pps A) y.p (k))))||(whereV (pps A) y.p== -1))&&true) (by kernel_rfl) iiz (fun e=>gd_imp [(102,(fPV (80) (y.p)).toSF),(104,SF.row 6 [CU.agg (fPV (80) (y.p))])] ((UF.eq (.int .i64 (-1))).toSF) (fmz ⟨fun v W h=>imp_app (c:=(((!((((farK 0 (pps A) y.p (k))||(farK 1 (pps A) y.p (k)))||(farK 2 (pps A) y.p (k)))||(farK 3 (pps A) y.p (k))))||(whereV (pps A) y.p== -1))&&true)=true) (f:=(fPV (80) (y.p)).toSF) e h,fmz ⟨fun v W h=>imp_app (c:=(((!((((farK 0 (pps A) y.p (k))||(farK 1 (pps A) y.p (k)))||(farK 2 (pps A) y.p (k)))||(farK 3 (pps A) y.p (k))))||(whereV (pps A) y.p== -1))&&true)=true) (f:=SF.row 6 [CU.agg (fPV (80) (y.p))]) e h,fnz⟩⟩) (fun _ _ h _=>h) (by kernel_rfl) (ok_call2 wide_wide en_34 (fun u0 u1 W hb (h0:(fPV (80) (y.p)).p u0 W) h1=>(iwhere_p (m:=80) (p:=y.p) (ps:= [y.p]) h0 h1 (by decide) (by decide) (by simp) (hT.below (s.up hb))).mono (Ret.to (fun v W h=>by rw [one_out] at h;exact h))))) (fun e W h=>absurd h e))<|oc (ok_guard 101 (((!((((farK 0 (pps A) y.p (k))||(farK 1 (pps A) y.p (k)))||(farK 2 (pps A) y.p (k)))||(farK 3 (pps A) y.p (k))))||(whereV (pps A) y.p== -1))&&true) (by kernel_rfl) iiz (fun e=>gd_imp [(105,(UF.eq (.int .i64 (-1))).toSF)] ((UF.eq (.bool true)).toSF) (fmz ⟨fun v W h=>imp_app (c:=(((!((((farK 0 (pps A) y.p (k))||(farK 1 (pps A) y.p (k)))||(farK 2 (pps A) y.p (k)))||(farK 3 (pps A) y.p (k))))||(whereV (pps A) y.p== -1))&&true)=true) (f:=(UF.eq (.int .i64 (-1))).toSF) e h,fnz⟩) (fun _ _ h _=>h) (by kernel_rfl) (ok_cmpI .i64 (-1) (-1) true iiz iiz (by rfl) rfl)) (fun e W h=>absurd h e))<|oc (ok_pick (((!((((farK 0 (pps A) y.p (k))||(farK 1 (pps A) y.p (k)))||(farK 2 (pps A) y.p (k)))||(farK 3 (pps A) y.p (k))))||(whereV (pps A) y.p== -1))&&true) iiz (fun e v W h=>pick_and (imp_app e h) e) (fun e v W h=>pick_and' h e))<|oc ok_move<|oc (ok_guard 108 ((((!((((farK 0 (pps A) y.p (k))||(farK 1 (pps A) y.p (k)))||(farK 2 (pps A) y.p (k)))||(farK 3 (pps A) y.p (k))))||(whereV (pps A) y.p== -1))&&true)&&true) (by kernel_rfl) iiz (fun e=>gd_imp [] ((UF.eq r).toSF) (fnz) (fun _ _ h _=>h) (by kernel_rfl) (ok_move)) (fun e W h=>absurd h e))<|oc (ok_guard 108 ((((!((((farK 0 (pps A) y.p (k))||(farK 1 (pps A) y.p (k)))||(farK 2 (pps A) y.p (k)))||(farK 3 (pps A) y.p (k))))||(whereV (pps A) y.p== -1))&&true)&&true) (by kernel_rfl) iiz (fun e=>gd_imp [(109,(UF.eq r).toSF)] ((UF.eq (.bool true)).toSF) (fmz ⟨fun v W h=>imp_app (c:=((((!((((farK 0 (pps A) y.p (k))||(farK 1 (pps A) y.p (k)))||(farK 2 (pps A) y.p (k)))||(farK 3 (pps A) y.p (k))))||(whereV (pps A) y.p== -1))&&true)&&true)=true) (f:=(UF.eq r).toSF) e h,fnz⟩) (fun _ _ h _=>h) (by kernel_rfl) (ok_call2 wide_wide en_36 (fun u0 u1 W hb (h0:u0=r) (h1:u1= .slice none 0 0)=>(iholds_p (m:=80) (ps:=pps A) (qs:= []) (by rw [show _=r from h0];exact (SF.row 6 (pvs (80) (pps A))).st _ _ _ hA (s.up hb)) (by rw [show u1=_ from h1];exact row_nil 6 _) (by decide) (by decide) hnA (by simp) (hT.below (s.up hb))).mono (Ret.to (fun v W h=>h))))) (fun e W h=>absurd h e))<|oc (ok_pick ((((!((((farK 0 (pps A) y.p (k))||(farK 1 (pps A) y.p (k)))||(farK 2 (pps A) y.p (k)))||(farK 3 (pps A) y.p (k))))||(whereV (pps A) y.p== -1))&&true)&&true) iiz (fun e v W h=>pick_and (imp_app e h) e) (fun e v W h=>pick_and' h e))<|oc ok_move<|oc (ok_guard 112 (((((!((((farK 0 (pps A) y.p (k))||(farK 1 (pps A) y.p (k)))||(farK 2 (pps A) y.p (k)))||(farK 3 (pps A) y.p (k))))||(whereV (pps A) y.p== -1))&&true)&&true)&&true) (by kernel_rfl) iiz (fun e=>gd_imp [] ((UF.eq r).toSF) (fnz) (fun _ _ h _=>h) (by kernel_rfl) (ok_move)) (fun e W h=>absurd h e))<|oc (ok_guard 112 (((((!((((farK 0 (pps A) y.p (k))||(farK 1 (pps A) y.p (k)))||(farK 2 (pps A) y.p (k)))||(farK 3 (pps A) y.p (k))))||(whereV (pps A) y.p== -1))&&true)&&true)&&true) (by kernel_rfl) iiz (fun e=>gd_imp [(113,(UF.eq r).toSF)] ((UF.eq (.bool true)).toSF) (fmz ⟨fun v W h=>imp_app (c:=(((((!((((farK 0 (pps A) y.p (k))||(farK 1 (pps A) y.p (k)))||(farK 2 (pps A) y.p (k)))||(farK 3 (pps A) y.p (k))))||(whereV (pps A) y.p== -1))&&true)&&true)&&true)=true) (f:=(UF.eq r).toSF) e h,fnz⟩) (fun _ _ h _=>h) (by kernel_rfl) (ok_call2 wide_wide en_35 (fun u0 u1 W hb (h0:u0=r) (h1:u1= .slice none 0 0)=>(istrictly_p (m:=80) (ps:=pps A) (qs:= []) (by rw [show _=r from h0];exact (SF.row 6 (pvs (80) (pps A))).st _ _ _ hA (s.up hb)) (by rw [show u1=_ from h1];exact row_nil 6 _) (by decide) (by decide) hnA (by simp) (hT.below (s.up hb))).mono (Ret.to (fun v W h=>h))))) (fun e W h=>absurd h e))<|oc (ok_pick (((((!((((farK 0 (pps A) y.p (k))||(farK 1 (pps A) y.p (k)))||(farK 2 (pps A) y.p (k)))||(farK 3 (pps A) y.p (k))))||(whereV (pps A) y.p== -1))&&true)&&true)&&true) iiz (fun e v W h=>pick_and (imp_app e h) e) (fun e v W h=>pick_and' h e))<|oc ok_move<|oc (ok_guard 116 ((((((!((((farK 0 (pps A) y.p (k))||(farK 1 (pps A) y.p (k)))||(farK 2 (pps A) y.p (k)))||(farK 3 (pps A) y.p (k))))||(whereV (pps A) y.p== -1))&&true)&&true)&&true)&&true) (by kernel_rfl) iiz (fun e=>gd_imp [] ((UF.eq (.bool true)).toSF) (fnz) (fun _ _ h _=>h) (by kernel_rfl) (ok_call0 wide_wide en_31 (fun W hb=>wakes17 (hT.below (s.up hb))))) (fun e W h=>absurd h e))<|oc (ok_pick ((((((!((((farK 0 (pps A) y.p (k))||(farK 1 (pps A) y.p (k)))||(farK 2 (pps A) y.p (k)))||(farK 3 (pps A) y.p (k))))||(whereV (pps A) y.p== -1))&&true)&&true)&&true)&&true) iiz (fun e v W h=>pick_and (imp_app e h) e) (fun e v W h=>pick_and' h e))<|oc (ok_assign)<|obs_nil) fun a w16 s=> ?_
   refine tail_end rfl ?_
   refine wpIn_ret ?_
   exact StS.res1 s (t:=4) rfl (fun v W h=>by rw [hkN] at h;rw [show (fB true)=fB ((((((!(farA (pps A) y.p)||(whereV (pps A) y.p== -1))&&true)&&true)&&true)&&true)&&true) by rw [farA_out];rfl];exact h)
end Go.Proofs.Wd
