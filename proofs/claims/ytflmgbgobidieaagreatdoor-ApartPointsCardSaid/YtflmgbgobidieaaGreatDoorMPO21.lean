/- Walks of package apart: Which; Walks of straitref18, straitref08: Grea and what it needs. -/
import Derived.Test.YtflmgbgobidieaaGreatDoorMPO20
import Derived.Test.YtflmgbgobidieaaGreatDoorMPO19
import Derived.Test.YtflmgbgobidieaaGreatDoorMPO13
namespace Go.Proofs.Wd
set_option maxRecDepth 100000
set_option maxHeartbeats 1000000
open Go.RowKit Lb
abbrev nums (L:List Nat):List CU:=L.map fun z=>CU.is [.int .i64 ((z:Nat):Int)]
theorem nums_snoc (L:List Nat) (k:Nat):nums (L++ [k])=nums L++ [CU.is [.int .i64 ((k:Nat):Int)]]:=by simp [nums]
def whichK (at_:List V2) (ts:List V6) (k:Nat):List Nat:=(List.range k).filter fun i=> !(polysB at_ (tl (at3 ts i)))
theorem whichK_t {a:List V2} {ts:List V6} {k:Nat} (h:(!(polysB a (tl (at3 ts k))))=true):whichK a ts (k+1)=whichK a ts k++ [k]:=by
 unfold whichK
 rw [List.range_succ,List.filter_append]
 simp [h]
theorem whichK_f {a:List V2} {ts:List V6} {k:Nat} (h:(!(polysB a (tl (at3 ts k))))=false):whichK a ts (k+1)=whichK a ts k:=by
 unfold whichK
 rw [List.range_succ,List.filter_append]
 simp [h]
theorem whichK_len (a:List V2) (ts:List V6) (k:Nat):(whichK a ts k).length≤k:=by
 have:=List.length_filter_le (fun i=> !(polysB a (tl (at3 ts i)))) (List.range k)
 rwa [List.length_range] at this
theorem num_ok (z:Int): ∀C,C∈ [CU.is [.int .i64 z]]→CU.ok 1 C:=fun C hC cs W h=>by
 obtain rfl:C=_:=by simpa using hC
 obtain rfl:cs=_:=h
 exact ⟨rfl,rfl,fun u hu=>by obtain rfl:=List.mem_singleton.1 hu;rfl⟩
theorem sInt1 (z:Int):sliceCells Tryz.prog 38 1 [(0, .int .i64 z)]=some (3,#[.int .i64 z]):=by kernel_rfl
theorem sl_int1 {z:Int} {u:Value} {W:World} (h:u= .int .i64 z): ∃e cs,sliceCells Tryz.prog 38 1 [(0,u)]=some (e,cs)∧(SF.row 1 [CU.is [.int .i64 z]]).p (.slice (some ⟨W.heap.size,0,none⟩) 1 1) (W.alloc (.cells cs e)):=by
 subst h
 refine ⟨_,_,sInt1 z,some ⟨W.heap.size,0,none⟩,1,rfl,Nat.le_refl _,by decide,fun e=>(by cases e),fun i C hi=> ?_⟩
 have hm:=mem_new W #[.int .i64 z] 3
 obtain rfl:i=0:=by have:=(List.getElem?_eq_some_iff.1 hi).1;simp at this;omega
 obtain rfl:CU.is [.int .i64 z]=C:=by simpa using hi
 exact ⟨W.heap.size,0, [.int .i64 z],rfl,hm,rfl⟩
theorem awhich_p {m:Nat} {W:World} {r l v:Value} {rs:List V2} {ts:List V6} {p:V2} (hr_:(SF.row 6 (pvs m rs)).p r W) (ht:(SF.row 18 (trs m ts)).p l W) (h1:(fPV m p).p v W) (hm:m≤25) (hm0:0<m) (hn:rs.length≤1000000) (hnt:ts.length≤1000000) (hT:Tab W):Calls Tryz.prog 15 #[r,l,v] W (Ret W (SF.newRow W 3 1 (nums (whichK (shiftV rs p) ts ts.length)))):=by
 have hsh:=shift_qb (pvs_qb hm0 hr_) (pv_qb hm0 h1)
 refine run_st [(UF.eq r).toSF,(UF.eq l).toSF,(fPV m p).toSF] Tryz.func15 rfl (by kernel_rfl) ⟨rfl,rfl,h1,trivial⟩ fun a s=> ?_
 replace s:=s.renew [(0, .u (UF.eq r)),(1, .u (UF.eq l)),(2, .u (fPV (m) (p)))] (fmz ⟨.inr ⟨_,rfl, .head _⟩,fmz ⟨.inr ⟨_,rfl,mz1⟩,fmz ⟨.inr ⟨_,rfl,mz2⟩,fnz⟩⟩⟩)
 refine wpIn_seq ?_
 refine region_go 0 [] hmix s (by kernel_rfl)
  obs_nil fun a w1 s=> ?_
 refine t_box (CU.agg (fPV (m) (p))) rfl s (by kernel_rfl) (fun v W h=>pt_box h) fun b5 a w s=> ?_
 refine t_set (UF.eq (.slice none 0 0)) rfl s (by kernel_rfl) iiz fun a w s=> ?_
 refine tail_end rfl ?_
 refine wpIn_seq ?_
 refine region_goN 3 ((10, .s ((UF.eq r).toSF))::(11, .s ((fPV (m) (p)).toSF))::(12, .s (SF.newRow w 31 6 (pns (shiftV rs p)))):: []) hmix s (by kernel_rfl)
  (oc ok_move<|oc (ok_ldW (f:=fPV (m) (p)) 6 (by kernel_rfl) (hz:=pt_len _ _))<|oc (ok_call2 wide_wide en_17 (fun u0 u1 W hb (h0:u0=r) (h1:(fPV (m) (p)).p u1 W)=>(ashift_p (by rw [show _=r from h0];exact (SF.row 6 (pvs (m) (rs))).st _ _ _ hr_ (s.up hb)) h1 (by omega) hm0 hn (hT.below (s.up hb))).mono (Ret.to (newRow_old hb.size))))<|obs_nil) fun a w2 s hr=> ?_
 obtain ⟨v12,e12⟩: ∃v,a.tmps.getD 12 undef=v:=⟨_,rfl⟩
 have hv12:(SF.row 6 (pvs (2*m+1) (shiftV rs p))).p v12 w2:=e12▸pns_pvs hsh _ _ (newRow_row _ _ (hr (_,_) mz2))
 replace s:=s.learn 12 v12 e12
 have hb0:=s.below
 have hT0:=hT
 replace hT:=hT.below hb0
 have ht':=(SF.row 18 (trs m ts)).st _ _ _ ht hb0
 replace s:StS _ _ _ [⟨5,31,CU.agg (fPV (m) (p)),b5,true⟩] _ _ _ _:=s.freeze
 replace s:=s.reb rfl [(12, .u (UF.eq (v12))),(6, .u (UF.eq (.slice none 0 0))),(0, .u (UF.eq r)),(1, .u (UF.eq l)),(2, .u (fPV (m) (p)))] (fmz ⟨.inl (.head _),fmz ⟨.inl mz1,fmz ⟨.inl mz2,fmz ⟨.inl mz3,fmz ⟨.inl mz4,fnz⟩⟩⟩⟩⟩)
 refine t_set (UF.eq v12) rfl s (by kernel_rfl) iiz fun a w s=> ?_
 refine tail_end rfl ?_
 refine wpIn_seq ?_
 refine wpIn_seq ?_
 refine region_go 3 ((13, .u (UF.eq l))::(14, .u (UF.eq (.int .i64 ((((trs (m) (ts)).length:Nat):Int)))))::(15, .u (UF.eq (.int .i64 (0)))):: []) hmix s (by kernel_rfl)
  (oc ok_move<|oc (ok_lenB (z:=18) (Cs:=trs (m) (ts)) (by kernel_rfl) (fun v W hb h=>(by rw [show _=l from h];exact (SF.row 18 (trs (m) (ts))).st _ _ _ ht' (s.up hb))) (fun _=>rfl))<|oc ok_move<|obs_nil) fun a w3 s=> ?_
 refine tail_end rfl ?_
 refine wpIn_block ?_
 obtain ⟨W1,hW1⟩: ∃w',w'=W:=⟨_,rfl⟩
 have sL:=s
 obtain ⟨base,hbase⟩: ∃b,b=w3.heap.size:=⟨_,rfl⟩
 have hb5:b5<base:=by rw [hbase];exact s.old _ (.head _)
 have hbb:=s.gr.size
 have hb0':_≤base:=hbase▸hbb
 have hsz0:base≤w3.heap.size:=by rw [hbase];exact Nat.le_refl _
 refine st_rows (fun (q:Nat×Value) w=>q.1≤ts.length∧base≤w.heap.size∧RowN w base 3 1 q.2 (nums (whichK (shiftV rs p) ts q.1))) (fun q=> [(7, .u (UF.eq v12)),(13, .u (UF.eq l)),(14, .u (UF.eq (.int .i64 ((((trs (m) (ts)).length:Nat):Int))))),(6, .u (UF.eq (q.2))),(15, .u (UF.eq (.int .i64 (((q.1:Nat):Int)))))]) (fun q=>ts.length - q.1) ((0, .slice none 0 0)) (⟨Nat.zero_le _,hsz0,RowN.nil _ _ _ _⟩) (s.keepK _ (fmz ⟨mz3,fmz ⟨.head _,fmz ⟨mz1,fmz ⟨mz5,fmz ⟨mz2,fnz⟩⟩⟩⟩⟩)) fun q a w hI s=> ?_
 have s0:=s
 have hvw:=(SF.row 6 _).st _ _ _ hv12 s0.below
 have htw:=(SF.row 18 _).st _ _ _ ht' s0.below
 have hT0:=hT
 have hT:=hT0.below s0.below
 replace s:=s.reb rfl [(7, .u (UF.eq v12)),(13, .u (UF.eq l)),(14, .u (UF.eq (.int .i64 ((((trs (m) (ts)).length:Nat):Int))))),(6, .u (UF.eq (q.2))),(15, .u (UF.eq (.int .i64 (((q.1:Nat):Int)))))] (fmz ⟨.inl (.head _),fmz ⟨.inl mz1,fmz ⟨.inl mz2,fmz ⟨.inl mz3,fmz ⟨.inl mz4,fnz⟩⟩⟩⟩⟩)
 refine wpIn_seq ?_
 refine region_go 1 ((16, .u (UF.eq (.bool (decide (((q.1:Nat):Int)<(((trs (m) (ts)).length:Nat):Int)))))):: []) hmix s (by kernel_rfl)
  (oc (ok_cmpI .i64 (((q.1:Nat):Int)) ((((trs (m) (ts)).length:Nat):Int)) (decide (((q.1:Nat):Int)<(((trs (m) (ts)).length:Nat):Int))) iiz iiz rfl rfl)<|obs_nil) fun a w4 s=> ?_
 refine tail_end rfl ?_
 refine wpIn_seq ?_
 refine StS.cond s (decide (((q.1:Nat):Int)<(((trs (m) (ts)).length:Nat):Int))) iiz (fun e=> ?_) (fun e=> ?_)
 ·have hk:q.1<ts.length:=by have:=of_decide_eq_true e;simp at this;omega
  refine wpIn_skip ?_
  refine wpIn_seq ?_
  refine wpIn_block ?_
  refine wpIn_seq ?_
  refine region_go 3 ((17, .u (UF.eq (.int .i64 (((q.1:Nat):Int)))))::(18, .s (SF.ptr (CU.agg (fTR (m) ((at3 ts q.1)))).cf))::(19, .u (fTR (m) ((at3 ts q.1)))):: []) hmix s (by kernel_rfl)
   (oc ok_move<|oc (ok_indexB (z:=18) (Cs:=trs (m) (ts)) (i:=q.1) (C:=CU.agg (fTR (m) ((at3 ts q.1)))) (by kernel_rfl) (trs_get hk) (fun v W hb h=>(by rw [show _=l from h];exact (SF.row 18 (trs (m) (ts))).st _ _ _ htw (s.up hb))) iiz)<|oc (ok_ldW (f:=fTR (m) ((at3 ts q.1))) 18 (by kernel_rfl) (hz:=tr_len _ _))<|obs_nil) fun a w5 s=> ?_
  refine t_alloc (CU.len 18) (cs:= [.bool false, .slice none 0 0, .slice none 0 0, .bool false, .slice none 0 0, .slice none 0 0, .bool false, .slice none 0 0, .slice none 0 0, .bool false, .slice none 0 0, .slice none 0 0, .bool false, .slice none 0 0, .slice none 0 0, .bool false, .slice none 0 0, .slice none 0 0]) (by kernel_rfl) rfl s (by kernel_rfl) (fun W=>rfl) rfl fun b9 a w s=> ?_
  refine t_set (UF.eq (.int .i64 (((q.1:Nat):Int)))) rfl s (by kernel_rfl) iiz fun a w s=> ?_
  refine t_store (CU.agg (fTR (m) ((at3 ts q.1)))) ((fTR (m) ((at3 ts q.1))).toSF) rfl s (by kernel_rfl) rfl rfl rfl iiz iiz (tr_store) fun a w s=> ?_
  refine tail_end rfl ?_
  refine wpIn_seq ?_
  refine region_go 4 ((20, .s ((UF.eq v12).toSF))::(21, .s (SF.row 6 (pvs (m) (tl ((at3 ts q.1))))))::(22, .s ((UF.eq (.bool (polysB (shiftV rs p) (tl (at3 ts q.1))))).toSF))::(23, .u (UF.eq (.bool (!(polysB (shiftV rs p) (tl (at3 ts q.1))))))):: []) hmix s (by kernel_rfl)
   (oc ok_move<|oc (ok_sliceA (C:=(CU.agg (fTR (m) ((at3 ts q.1)))).cf) 3 31 (by kernel_rfl) (by kernel_rfl) (fun _ _ h=>h.2) (fun b o cs W h hm=>tr_row h hm))<|oc (ok_call2 wide_wide en_16 (fun u0 u1 W hb (h0:u0=v12) (h1:(SF.row 6 (pvs (m) (tl ((at3 ts q.1))))).p u1 W)=>apolys_p (m:=2*m+1) (by rw [show _=v12 from h0];exact (SF.row 6 (pvs ((2*m+1)) (shiftV rs p))).st _ _ _ hvw (s.up hb)) (pvs_mono (by omega) _ _ h1) (by omega) (by omega) (by rw [shift_len];exact hn) (by simp) (hT.below (s.up hb))))<|oc (ok_not (polysB (shiftV rs p) (tl (at3 ts q.1))) iiz (fun _=>rfl))<|obs_nil) fun a w6 s=> ?_
  refine tail_end rfl ?_
  refine StS.cond s (!(polysB (shiftV rs p) (tl (at3 ts q.1)))) iiz (fun e=> ?_) (fun e=> ?_)
  ·refine region_goSN 3 ((24, .u (UF.eq (q.2)))::(25, .s ((UF.eq (.int .i64 (((q.1:Nat):Int)))).toSF))::(26, .s (SF.row 1 [CU.is [.int .i64 (((q.1:Nat):Int))]])):: []) s (by kernel_rfl)
    (oc ok_move<|oc ok_move<|oc (ok_slice1 (fun u W (hu:u= .int .i64 (((q.1:Nat):Int)))=>sl_int1 hu))<|obs_nil) fun a w7 s hr=> ?_
   refine t_app ([CU.is [.int .i64 (((q.1:Nat):Int))]]) s0 (s.keepK [(24, .u (UF.eq (q.2))),(23, .u (UF.eq (.bool (!(polysB (shiftV rs p) (tl (at3 ts q.1))))))),(8, .u (UF.eq (.int .i64 (((q.1:Nat):Int))))),(17, .u (UF.eq (.int .i64 (((q.1:Nat):Int))))),(19, .u (fTR (m) ((at3 ts q.1)))),(16, .u (UF.eq (.bool (decide (((q.1:Nat):Int)<(((trs (m) (ts)).length:Nat):Int)))))),(7, .u (UF.eq v12)),(13, .u (UF.eq l)),(14, .u (UF.eq (.int .i64 ((((trs (m) (ts)).length:Nat):Int))))),(6, .u (UF.eq (q.2))),(15, .u (UF.eq (.int .i64 (((q.1:Nat):Int)))))] (fmz ⟨.head _,fmz ⟨mz1,fmz ⟨mz2,fmz ⟨mz3,fmz ⟨mz4,fmz ⟨mz5,fmz ⟨mz6,fmz ⟨mz7,fmz ⟨mz8,fmz ⟨mz9,fmz ⟨mz10,fnz⟩⟩⟩⟩⟩⟩⟩⟩⟩⟩⟩)) hb0' hI.2 rfl (by kernel_rfl) (by kernel_rfl) (by kernel_rfl) (s.fct (.tmp 24)) (hr (_,_) mz2) (num_ok _) (by have:=whichK_len (shiftV rs p) ts q.1;simp;omega) (fun x hx hr=>by rcases List.mem_cons.1 hx with rfl|hx;cases hr;rcases List.mem_cons.1 hx with rfl|hx;exact hb5;cases hx) fun v' a w hI' s=> ?_
   have s1:=s
   replace s:StS _ _ _ [⟨9,33,CU.agg (fTR (m) ((at3 ts q.1))),b9,true⟩,⟨5,31,CU.agg (fPV (m) (p)),b5,true⟩] _ _ _ _:=s.freeze
   replace s:=s.reb rfl [(27, .u (UF.eq (v'))),(24, .u (UF.eq (q.2))),(23, .u (UF.eq (.bool (!(polysB (shiftV rs p) (tl (at3 ts q.1))))))),(8, .u (UF.eq (.int .i64 (((q.1:Nat):Int))))),(17, .u (UF.eq (.int .i64 (((q.1:Nat):Int))))),(19, .u (fTR (m) ((at3 ts q.1)))),(16, .u (UF.eq (.bool (decide (((q.1:Nat):Int)<(((trs (m) (ts)).length:Nat):Int)))))),(7, .u (UF.eq v12)),(13, .u (UF.eq l)),(14, .u (UF.eq (.int .i64 ((((trs (m) (ts)).length:Nat):Int))))),(6, .u (UF.eq (q.2))),(15, .u (UF.eq (.int .i64 (((q.1:Nat):Int)))))] (fmz ⟨.inl (.head _),fmz ⟨.inl mz1,fmz ⟨.inl mz2,fmz ⟨.inl mz3,fmz ⟨.inl mz4,fmz ⟨.inl mz5,fmz ⟨.inl mz6,fmz ⟨.inl mz7,fmz ⟨.inl mz8,fmz ⟨.inl mz9,fmz ⟨.inl mz10,fmz ⟨.inl mz11,fnz⟩⟩⟩⟩⟩⟩⟩⟩⟩⟩⟩⟩)
   replace s:=s.drop [6]
   refine t_set (UF.eq (v')) rfl s (by kernel_rfl) iiz fun a w s=> ?_
   refine tail_end rfl ?_
   refine region_goS 1 ((28, .u (UF.eq (.int .i64 (((q.1+1:Nat):Int))))):: []) s (by kernel_rfl)
    (oc (ok_addI .i64 (((q.1:Nat):Int)) (1) (((q.1+1:Nat):Int)) iiz iiz (wrap64 _ _ (by omega) (by omega)))<|obs_nil) fun a w8 s=> ?_
   replace s:=s.drop [15]
   refine t_gd (UF.eq (.int .i64 (((q.1+1:Nat):Int)))) rfl s (by kernel_rfl) (ok_move) (by kernel_rfl) fun a w s=> ?_
   refine tail_end rfl ?_
   replace s:=s.popB
   have hbw:=s.below
   replace s:=s1.back (s.keepK [(15, .u (UF.eq (.int .i64 (((q.1+1:Nat):Int))))),(28, .u (UF.eq (.int .i64 (((q.1+1:Nat):Int))))),(6, .u (UF.eq (v'))),(27, .u (UF.eq (v'))),(24, .u (UF.eq (q.2))),(23, .u (UF.eq (.bool (!(polysB (shiftV rs p) (tl (at3 ts q.1))))))),(8, .u (UF.eq (.int .i64 (((q.1:Nat):Int))))),(17, .u (UF.eq (.int .i64 (((q.1:Nat):Int))))),(19, .u (fTR (m) ((at3 ts q.1)))),(16, .u (UF.eq (.bool (decide (((q.1:Nat):Int)<(((trs (m) (ts)).length:Nat):Int)))))),(7, .u (UF.eq v12)),(13, .u (UF.eq l)),(14, .u (UF.eq (.int .i64 ((((trs (m) (ts)).length:Nat):Int)))))] (fmz ⟨.head _,fmz ⟨mz1,fmz ⟨mz2,fmz ⟨mz3,fmz ⟨mz4,fmz ⟨mz5,fmz ⟨mz6,fmz ⟨mz7,fmz ⟨mz8,fmz ⟨mz9,fmz ⟨mz10,fmz ⟨mz11,fmz ⟨mz12,fnz⟩⟩⟩⟩⟩⟩⟩⟩⟩⟩⟩⟩⟩)) rfl
   exact ⟨(q.1+1,v'),(by show ts.length - (q.1+1)<ts.length - q.1;omega),⟨hk,Nat.le_trans hI'.1 hbw.size,by show RowN _ _ _ _ _ (nums (whichK _ _ (q.1+1)));rw [whichK_t e,nums_snoc];exact hI'.2.below hbw⟩,s.keepK _ (fmz ⟨mz10,fmz ⟨mz11,fmz ⟨mz12,fmz ⟨mz2,fmz ⟨.head _,fnz⟩⟩⟩⟩⟩)⟩
  ·refine wpIn_skip ?_
   refine region_goS 1 ((28, .u (UF.eq (.int .i64 (((q.1+1:Nat):Int))))):: []) s (by kernel_rfl)
    (oc (ok_addI .i64 (((q.1:Nat):Int)) (1) (((q.1+1:Nat):Int)) iiz iiz (wrap64 _ _ (by omega) (by omega)))<|obs_nil) fun a w9 s=> ?_
   replace s:=s.drop [15]
   refine t_gd (UF.eq (.int .i64 (((q.1+1:Nat):Int)))) rfl s (by kernel_rfl) (ok_move) (by kernel_rfl) fun a w s=> ?_
   refine tail_end rfl ?_
   replace s:=s.popB
   have hbw:=s.below
   replace s:=s0.back (s.keepK [(15, .u (UF.eq (.int .i64 (((q.1+1:Nat):Int))))),(28, .u (UF.eq (.int .i64 (((q.1+1:Nat):Int))))),(23, .u (UF.eq (.bool (!(polysB (shiftV rs p) (tl (at3 ts q.1))))))),(8, .u (UF.eq (.int .i64 (((q.1:Nat):Int))))),(17, .u (UF.eq (.int .i64 (((q.1:Nat):Int))))),(19, .u (fTR (m) ((at3 ts q.1)))),(16, .u (UF.eq (.bool (decide (((q.1:Nat):Int)<(((trs (m) (ts)).length:Nat):Int)))))),(7, .u (UF.eq v12)),(13, .u (UF.eq l)),(14, .u (UF.eq (.int .i64 ((((trs (m) (ts)).length:Nat):Int))))),(6, .u (UF.eq (q.2)))] (fmz ⟨.head _,fmz ⟨mz1,fmz ⟨mz2,fmz ⟨mz3,fmz ⟨mz4,fmz ⟨mz5,fmz ⟨mz6,fmz ⟨mz7,fmz ⟨mz8,fmz ⟨mz9,fmz ⟨mz10,fnz⟩⟩⟩⟩⟩⟩⟩⟩⟩⟩⟩)) rfl
   exact ⟨(q.1+1,q.2),(by show ts.length - (q.1+1)<ts.length - q.1;omega),⟨hk,Nat.le_trans hI.2.1 hbw.size,by show RowN _ _ _ _ _ (nums (whichK _ _ (q.1+1)));rw [whichK_f e];exact hI.2.2.below hbw⟩,s.keepK _ (fmz ⟨mz7,fmz ⟨mz8,fmz ⟨mz9,fmz ⟨mz10,fmz ⟨.head _,fnz⟩⟩⟩⟩⟩)⟩
 ·have hk:q.1=ts.length:=by have h7:=of_decide_eq_false e;have h8:=hI.1;simp at h7;omega
  refine wpIn_exit ?_
  refine wpIn_seq ?_
  refine region_goS 1 ((29, .u (UF.eq (q.2))):: []) s (by kernel_rfl)
   (oc ok_move<|obs_nil) fun a w10 s=> ?_
  replace s:=s.drop [6]
  refine t_set (UF.eq (q.2)) rfl s (by kernel_rfl) iiz fun a w s=> ?_
  refine tail_end rfl ?_
  refine wpIn_ret ?_
  exact StS.resN s (hb0.trans (s0.below.mono hb0.size)) rfl (by rw [s.val (.head _)];have:=(hI.2.2.below s.below).mono (Nat.le_trans hb0.size hb0');rw [hk] at this;exact this)
end Go.Proofs.Wd

namespace Go.Proofs.Wd
set_option maxRecDepth 100000
set_option maxHeartbeats 1000000
open Go.RowKit Lb
abbrev PX:=QX×QX
abbrev PX.p (x:PX):V2:=(x.1.q,x.2.q)
abbrev PX.u (x:PX):UF:=fPT (fQX x.1.n x.1.n' x.1.k x.1.d) (fQX x.2.n x.2.n' x.2.k x.2.d)
abbrev PX.cu (x:PX):CU:=CU.agg x.u
abbrev pxs (L:List PX):List CU:=L.map PX.cu
abbrev pps (L:List PX):List V2:=L.map PX.p
def PX.big (x:PX):Bool:=decide (2<max (max (max x.1.n x.1.n') x.2.n) x.2.n')
def gPt (L:List PX):Bool:=(L.take 9).any PX.big||decide (8<L.length)
theorem px_pv {x:PX} (h:x.big=false) {v:Value} {W:World} (hv:x.u.p v W):(fPV 2 x.p).p v W:=by
 have h:=of_decide_eq_false h
 exact pt_weak (fun v W h'=>rv_x h' (by omega) (by omega)) (fun v W h'=>rv_x h' (by omega) (by omega)) hv
theorem gPt_f {L:List PX} (h:gPt L=false):L.length≤8∧ ∀x,x∈L→x.big=false:=by
 unfold gPt at h
 rw [Bool.or_eq_false_iff] at h
 have h2:=of_decide_eq_false h.2
 refine ⟨by omega,fun x hx=> ?_⟩
 have h1:=List.any_eq_false.1 h.1 x (by rw [List.take_of_length_le (by omega)];exact hx)
 simpa using h1
theorem pxs_pvs {L:List PX} (h:gPt L=false) (v:Value) (W:World) (hv:(SF.row 6 (pxs L)).p v W):(SF.row 6 (pvs 2 (pps L))).p v W:=
 row_imp (by simp) (fun i C D hC hD cs W hh=>by
  have hi:i<L.length:=by have:=(List.getElem?_eq_some_iff.1 hC).1;simpa using this
  rw [List.getElem?_map,List.getElem?_eq_getElem hi] at hC
  rw [List.getElem?_map,List.getElem?_map,List.getElem?_eq_getElem hi] at hD
  cases hC;cases hD
  exact px_pv ((gPt_f h).2 _ (List.getElem_mem hi)) hh) v W hv
theorem pqx1 {x:PX} (cs:List Value) (W:World) (h:(PX.cu x).p cs W): ∃u,cs[1]?=some u∧(fSl x.1.n).p u W:=by
 obtain ⟨s,A,n,c,A',n',c',s2,B,k,d,B',k',d',e,h1,h2⟩:=h
 rw [cells6 e]
 have:=qx_abs _ W (show (QX.cu x.1).p [Value.bool s, .slice A n c, .slice A' n' c'] W from h1)
 exact this
theorem pqx2 {x:PX} (cs:List Value) (W:World) (h:(PX.cu x).p cs W): ∃u,cs[2]?=some u∧(fSl x.1.n').p u W:=by
 obtain ⟨s,A,n,c,A',n',c',s2,B,k,d,B',k',d',e,h1,h2⟩:=h
 rw [cells6 e]
 have:=qx_den _ W (show (QX.cu x.1).p [Value.bool s, .slice A n c, .slice A' n' c'] W from h1)
 exact this
theorem pqx4 {x:PX} (cs:List Value) (W:World) (h:(PX.cu x).p cs W): ∃u,cs[4]?=some u∧(fSl x.2.n).p u W:=by
 obtain ⟨s,A,n,c,A',n',c',s2,B,k,d,B',k',d',e,h1,h2⟩:=h
 rw [cells6 e]
 have:=qx_abs _ W (show (QX.cu x.2).p [Value.bool s2, .slice B k d, .slice B' k' d'] W from h2)
 exact this
theorem pqx5 {x:PX} (cs:List Value) (W:World) (h:(PX.cu x).p cs W): ∃u,cs[5]?=some u∧(fSl x.2.n').p u W:=by
 obtain ⟨s,A,n,c,A',n',c',s2,B,k,d,B',k',d',e,h1,h2⟩:=h
 rw [cells6 e]
 have:=qx_den _ W (show (QX.cu x.2).p [Value.bool s2, .slice B k d, .slice B' k' d'] W from h2)
 exact this
section
variable {F:Fence} {m:Nat} {P:Program} {w0:World} {ops:Array Oper} {G:Nat→SF} {d:Tmp} {ty:TypeId} {pos:String} {aft:Array Edge}
theorem ok_max4 {x y z u:Operand} {ats:Array TypeId} (a b c e:Nat) (hx: ∀q W,(fct G x).p q W→q= .int .i64 (a:Nat)) (hy: ∀q W,(fct G y).p q W→q= .int .i64 (b:Nat)) (hz: ∀q W,(fct G z).p q W→q= .int .i64 (c:Nat)) (hu: ∀q W,(fct G u).p q W→q= .int .i64 (e:Nat)) (hd: ∀W,(G d).p (.int .i64 ((max (max (max a b) c) e:Nat):Int)) W:=by exact fun _=>rfl):GdOK F m P w0 ops G ⟨some d, .call ⟨.builtin .max,#[x,y,z,u],ats⟩,ty,pos,aft,none⟩:=by
 intro bb W K Q hb hr hK
 have e1:=hx _ _ (fct_holds hr (x:=x) (by simp [Op.operands,Call.operands]))
 have e2:=hy _ _ (fct_holds hr (x:=y) (by simp [Op.operands,Call.operands]))
 have e3:=hz _ _ (fct_holds hr (x:=z) (by simp [Op.operands,Call.operands]))
 have e4:=hu _ _ (fct_holds hr (x:=u) (by simp [Op.operands,Call.operands]))
 refine ⟨fun f hf=>(by
  unfold Oper.about at hf
  simp [resolve,go_sem] at hf), ?_⟩
 rw [Oper.semAt_eq _ _ _ (fun _ e=>by cases e)]
 have:(execOp bb.eval ⟨some d, .call ⟨.builtin .max,#[x,y,z,u],ats⟩,ty,pos,aft,none⟩).run P W= .ok (.value (.int .i64 ((max (max (max a b) c) e:Nat):Int))) W:=by
  have m2: ∀p q:Nat,(if (p:Int)<(q:Int) then Value.int .i64 (q:Nat) else .int .i64 (p:Nat))= .int .i64 ((max p q:Nat):Int):=fun p q=>by
   split<;>(congr 1;omega)
  simp only [execOp,resolve,invoke,builtin,e1,e2,e3,e4,Sem.run_bind,Sem.run_pure,Result.andThen_ok,List.map_toArray,List.map_cons,List.map_nil]
  simp [Builtin.max_,Builtin.max2,m2,Sem.run_bind,Sem.run_pure]
  have m3: ∀p q:Nat,(if (p:Int)<(q:Int) then (q:Int) else (p:Int))=((max p q:Nat):Int):=fun p q=>by split<;>omega
  try simp only [m3]
  try (congr 1;omega)
 rw [this]
 exact hK _ _ (fun d' e'=>by cases e';exact hd _) (Below.refl _ _)
end
theorem gPt_big {L:List PX} {k:Nat} {x:PX} (hk:k≤8) (hx:L[k]?=some x) (h:x.big=true):gPt L=true:=by
 unfold gPt
 rw [Bool.or_eq_true]
 left
 refine List.any_eq_true.2 ⟨x, ?_,h⟩
 have hlt:=(List.getElem?_eq_some_iff.1 hx).1
 exact List.mem_of_getElem? (i:=k) (by rw [List.getElem?_take,if_pos (by omega)];exact hx)
theorem gPt_end {L:List PX} (h: ∀j y,j<9→L[j]?=some y→PX.big y=false):gPt L=decide ((((pxs L).length:Nat):Int)>8):=by
 unfold gPt
 have:(L.take 9).any PX.big=false:=by
  refine List.any_eq_false.2 fun x hx=> ?_
  obtain ⟨j,hj⟩:=List.getElem?_of_mem hx
  rw [List.getElem?_take] at hj
  split at hj
  ·rename_i hlt
   rw [h j x hlt hj];simp
  ·cases hj
 rw [this,Bool.false_or,decide_eq_decide,List.length_map]
 omega
theorem r18great_p {L:List PX} {W:World} {l:Value} (hl:(SF.row 6 (pxs L)).p l W):Calls Tryz.prog 11 #[l] W (Ret W (fB (gPt L)).toSF):=by
 refine run_st [SF.row 6 (pxs L)] Tryz.func11 rfl (by kernel_rfl) ⟨hl,trivial⟩ fun a s=> ?_
 refine wpIn_seq ?_
 refine region_go 1 ((2, .u (UF.eq (.bool false))):: []) hmix s (by kernel_rfl)
  (oc (ok_assign)<|obs_nil) fun a w1 s=> ?_
 refine tail_end rfl ?_
 refine wpIn_seq ?_
 refine wpIn_seq ?_
 refine region_go 1 ((3, .u (UF.eq (.int .i64 (0)))):: []) hmix s (by kernel_rfl)
  (oc (ok_assign)<|obs_nil) fun a w2 s=> ?_
 refine tail_end rfl ?_
 refine wpIn_block ?_
 refine st_whileK (fun k=>k≤L.length∧k≤9∧ ∀j y,j<k→L[j]?=some y→PX.big y=false) (fun k=> [(0, .o (SF.row 6 (pxs L))),(3, .u (UF.eq (.int .i64 (((k:Nat):Int)))))]) (fun k=>9 - k) ((0:Nat)) (⟨Nat.zero_le _,by omega,fun j y hj=>absurd hj (Nat.not_lt_zero _)⟩) (s.keepK _ (fmz ⟨mz2,fmz ⟨.head _,fnz⟩⟩)) fun k a w hx s=> ?_
 refine wpIn_seq ?_
 refine wpIn_seq ?_
 refine region_go 8 ((4, .s ((UF.eq (.int .i64 (((k:Nat):Int)))).toSF))::(5, .s (SF.row 6 (pxs L)))::(6, .s ((UF.eq (.int .i64 ((((pxs L).length:Nat):Int)))).toSF))::(7, .s ((UF.eq (.bool (decide (((k:Nat):Int)<(((pxs L).length:Nat):Int))))).toSF))::(8, .s ((UF.eq (.bool (decide (((k:Nat):Int)<(((pxs L).length:Nat):Int))))).toSF))::(9, .s (SF.imp ((decide (((k:Nat):Int)<(((pxs L).length:Nat):Int)))=true) ((UF.eq (.int .i64 (((k:Nat):Int)))).toSF)))::(10, .s (SF.imp ((decide (((k:Nat):Int)<(((pxs L).length:Nat):Int)))=true) ((UF.eq (.bool (decide (((k:Nat):Int)≤8)))).toSF)))::(11, .u (UF.eq (.bool ((decide (((k:Nat):Int)<(((pxs L).length:Nat):Int)))&&(decide (((k:Nat):Int)≤8)))))):: []) hmix s (by kernel_rfl)
  (oc ok_move<|oc ok_move<|oc (ok_lenR (z:=6) (Cs:=pxs L) (by kernel_rfl) iiz (fun _=>rfl))<|oc (ok_cmpI .i64 (((k:Nat):Int)) ((((pxs L).length:Nat):Int)) (decide (((k:Nat):Int)<(((pxs L).length:Nat):Int))) iiz iiz rfl rfl)<|oc ok_move<|oc (ok_guard 8 (decide (((k:Nat):Int)<(((pxs L).length:Nat):Int))) (by kernel_rfl) iiz (fun e=>gd_imp [] ((UF.eq (.int .i64 (((k:Nat):Int)))).toSF) (fnz) (fun _ _ h _=>h) (by kernel_rfl) (ok_move)) (fun e W h=>absurd h e))<|oc (ok_guard 8 (decide (((k:Nat):Int)<(((pxs L).length:Nat):Int))) (by kernel_rfl) iiz (fun e=>gd_imp [(9,(UF.eq (.int .i64 (((k:Nat):Int)))).toSF)] ((UF.eq (.bool (decide (((k:Nat):Int)≤8)))).toSF) (fmz ⟨fun v W h=>imp_app (c:=(decide (((k:Nat):Int)<(((pxs L).length:Nat):Int)))=true) (f:=(UF.eq (.int .i64 (((k:Nat):Int)))).toSF) e h,fnz⟩) (fun _ _ h _=>h) (by kernel_rfl) (ok_cmpI .i64 (((k:Nat):Int)) (8) (decide (((k:Nat):Int)≤8)) iiz iiz rfl rfl)) (fun e W h=>absurd h e))<|oc (ok_pick (decide (((k:Nat):Int)<(((pxs L).length:Nat):Int))) iiz (fun e v W h=>pick_and (imp_app e h) e) (fun e v W h=>pick_and' h e))<|obs_nil) fun a w3 s=> ?_
 refine tail_end rfl ?_
 refine StS.cond s ((decide (((k:Nat):Int)<(((pxs L).length:Nat):Int)))&&(decide (((k:Nat):Int)≤8))) iiz (fun e=> ?_) (fun e=> ?_)
 ·rw [Bool.and_eq_true] at e
  have hk1:k<L.length:=by have:=of_decide_eq_true e.1;simp at this;omega
  have hk2:k≤8:=by have:=of_decide_eq_true e.2;omega
  obtain ⟨x,hxl⟩: ∃x,L[k]?=some x:=⟨_,List.getElem?_eq_getElem hk1⟩
  have hx_:(pxs L)[k]?=some (PX.cu x):=by rw [List.getElem?_map,hxl];rfl
  refine wpIn_skip ?_
  refine wpIn_seq ?_
  refine wpIn_block ?_
  refine wpIn_seq ?_
  refine region_go 32 ((14, .s (SF.row 6 (pxs L)))::(15, .s ((UF.eq (.int .i64 (((k:Nat):Int)))).toSF))::(16, .s (SF.ptr (PX.cu x).cf))::(17, .s (SF.ptr ((PX.cu x).cf.at 0)))::(18, .s (SF.ptr ((PX.cu x).cf.at 0)))::(19, .s (SF.ptr ((PX.cu x).cf.at 1)))::(20, .s ((fSl (x.1.n)).toSF))::(21, .s ((UF.eq (.int .i64 (((x.1.n:Nat):Int)))).toSF))::(22, .s (SF.row 6 (pxs L)))::(23, .s ((UF.eq (.int .i64 (((k:Nat):Int)))).toSF))::(24, .s (SF.ptr (PX.cu x).cf))::(25, .s (SF.ptr ((PX.cu x).cf.at 0)))::(26, .s (SF.ptr ((PX.cu x).cf.at 2)))::(27, .s ((fSl (x.1.n')).toSF))::(28, .s ((UF.eq (.int .i64 (((x.1.n':Nat):Int)))).toSF))::(29, .s (SF.row 6 (pxs L)))::(30, .s ((UF.eq (.int .i64 (((k:Nat):Int)))).toSF))::(31, .s (SF.ptr (PX.cu x).cf))::(32, .s (SF.ptr ((PX.cu x).cf.at 3)))::(33, .s (SF.ptr ((PX.cu x).cf.at 3)))::(34, .s (SF.ptr ((PX.cu x).cf.at 4)))::(35, .s ((fSl (x.2.n)).toSF))::(36, .s ((UF.eq (.int .i64 (((x.2.n:Nat):Int)))).toSF))::(37, .s (SF.row 6 (pxs L)))::(38, .s ((UF.eq (.int .i64 (((k:Nat):Int)))).toSF))::(39, .s (SF.ptr (PX.cu x).cf))::(40, .s (SF.ptr ((PX.cu x).cf.at 3)))::(41, .s (SF.ptr ((PX.cu x).cf.at 5)))::(42, .s ((fSl (x.2.n')).toSF))::(43, .s ((UF.eq (.int .i64 (((x.2.n':Nat):Int)))).toSF))::(44, .s ((UF.eq (.int .i64 (((max (max (max x.1.n x.1.n') x.2.n) x.2.n':Nat):Int)))).toSF))::(45, .u (UF.eq (.bool (PX.big x)))):: []) hmix s (by kernel_rfl)
   (oc ok_move<|oc ok_move<|oc (ok_index (z:=6) (Cs:=pxs L) (i:=k) (C:=PX.cu x) (by kernel_rfl) hx_ iiz iiz)<|oc (ok_fld (C:=(PX.cu x).cf) 0 (by kernel_rfl))<|oc (ok_fldn (C:=(PX.cu x).cf) 0 0 (by kernel_rfl))<|oc (ok_fldn (C:=(PX.cu x).cf) 0 1 (by kernel_rfl))<|oc (ok_ld (C:=(PX.cu x).cf) (k:=1) (by kernel_rfl) (h:=pqx1))<|oc (ok_len (by kernel_rfl) (fun v W ⟨A,c,e⟩=>⟨A,x.1.n,c,e,rfl⟩))<|oc ok_move<|oc ok_move<|oc (ok_index (z:=6) (Cs:=pxs L) (i:=k) (C:=PX.cu x) (by kernel_rfl) hx_ iiz iiz)<|oc (ok_fld (C:=(PX.cu x).cf) 0 (by kernel_rfl))<|oc (ok_fldn (C:=(PX.cu x).cf) 0 2 (by kernel_rfl))<|oc (ok_ld (C:=(PX.cu x).cf) (k:=2) (by kernel_rfl) (h:=pqx2))<|oc (ok_len (by kernel_rfl) (fun v W ⟨A,c,e⟩=>⟨A,x.1.n',c,e,rfl⟩))<|oc ok_move<|oc ok_move<|oc (ok_index (z:=6) (Cs:=pxs L) (i:=k) (C:=PX.cu x) (by kernel_rfl) hx_ iiz iiz)<|oc (ok_fld (C:=(PX.cu x).cf) 3 (by kernel_rfl))<|oc (ok_fldn (C:=(PX.cu x).cf) 3 0 (by kernel_rfl))<|oc (ok_fldn (C:=(PX.cu x).cf) 3 1 (by kernel_rfl))<|oc (ok_ld (C:=(PX.cu x).cf) (k:=4) (by kernel_rfl) (h:=pqx4))<|oc (ok_len (by kernel_rfl) (fun v W ⟨A,c,e⟩=>⟨A,x.2.n,c,e,rfl⟩))<|oc ok_move<|oc ok_move<|oc (ok_index (z:=6) (Cs:=pxs L) (i:=k) (C:=PX.cu x) (by kernel_rfl) hx_ iiz iiz)<|oc (ok_fld (C:=(PX.cu x).cf) 3 (by kernel_rfl))<|oc (ok_fldn (C:=(PX.cu x).cf) 3 2 (by kernel_rfl))<|oc (ok_ld (C:=(PX.cu x).cf) (k:=5) (by kernel_rfl) (h:=pqx5))<|oc (ok_len (by kernel_rfl) (fun v W ⟨A,c,e⟩=>⟨A,x.2.n',c,e,rfl⟩))<|oc (ok_max4 (x.1.n) (x.1.n') (x.2.n) (x.2.n') iiz iiz iiz iiz)<|oc (ok_cmpI .i64 (((max (max (max x.1.n x.1.n') x.2.n) x.2.n':Nat):Int)) 2 (PX.big x) iiz iiz (by unfold PX.big;show decide (((max (max (max x.1.n x.1.n') x.2.n) x.2.n':Nat):Int)>2)=_;rw [decide_eq_decide];omega) rfl)<|obs_nil) fun a w4 s=> ?_
  refine tail_end rfl ?_
  refine StS.cond s (PX.big x) iiz (fun e=> ?_) (fun e=> ?_)
  ·refine wpIn_seq ?_
   refine region_go 1 ((2, .u (UF.eq (.bool true))):: []) hmix s (by kernel_rfl)
    (oc (ok_assign)<|obs_nil) fun a w5 s=> ?_
   refine tail_end rfl ?_
   refine wpIn_ret ?_
   exact StS.res1 s (t:=2) rfl (fun v W h=>by rw [gPt_big hk2 hxl e];exact h)
  ·have hbig:=e
   refine wpIn_skip ?_
   refine region_goS 2 ((12, .s ((UF.eq (.int .i64 (((k:Nat):Int)))).toSF))::(13, .u (UF.eq (.int .i64 (((k+1:Nat):Int))))):: []) s (by kernel_rfl)
    (oc ok_move<|oc (ok_addI .i64 (((k:Nat):Int)) (1) (((k+1:Nat):Int)) iiz iiz (wrap64 _ _ (by omega) (by omega)))<|obs_nil) fun a w6 s=> ?_
   replace s:=s.drop [3]
   refine t_set (UF.eq (.int .i64 (((k+1:Nat):Int)))) rfl s (by kernel_rfl) iiz fun a w s=> ?_
   refine tail_end rfl ?_
   exact ⟨k+1,⟨by omega,by omega,fun j y hj hy=>by rcases Nat.lt_or_eq_of_le (Nat.le_of_lt_succ hj) with h|h;exact hx.2.2 j y h hy;rw [h,hxl] at hy;cases hy;exact hbig⟩,(by show 9 - (k+1)<9 - k;omega),s.keepK _ (fmz ⟨mz4,fmz ⟨.head _,fnz⟩⟩)⟩
 ·have hend:L.length≤k∨k=9:=by
   rw [Bool.and_eq_false_iff] at e
   rcases e with e|e
   ·have h7:=of_decide_eq_false e;simp at h7;omega
   ·have h7:=of_decide_eq_false e;omega
  refine wpIn_exit ?_
  refine wpIn_seq ?_
  refine region_go 4 ((46, .s (SF.row 6 (pxs L)))::(47, .s ((UF.eq (.int .i64 ((((pxs L).length:Nat):Int)))).toSF))::(48, .s ((UF.eq (.bool (decide ((((pxs L).length:Nat):Int)>8)))).toSF))::(2, .u (UF.eq (.bool (decide ((((pxs L).length:Nat):Int)>8))))):: []) hmix s (by kernel_rfl)
   (oc ok_move<|oc (ok_lenR (z:=6) (Cs:=pxs L) (by kernel_rfl) iiz (fun _=>rfl))<|oc (ok_cmpI .i64 ((((pxs L).length:Nat):Int)) (8) (decide ((((pxs L).length:Nat):Int)>8)) iiz iiz rfl rfl)<|oc (ok_assign)<|obs_nil) fun a w7 s=> ?_
  refine tail_end rfl ?_
  refine wpIn_ret ?_
  exact StS.res1 s (t:=2) rfl (fun v W h=>by rw [gPt_end (fun j y hj hy=>hx.2.2 j y (by have:=(List.getElem?_eq_some_iff.1 hy).1;omega) hy)];exact h)
end Go.Proofs.Wd

namespace Go.Proofs.Wd
set_option maxRecDepth 100000
set_option maxHeartbeats 1000000
open Go.RowKit Lb
theorem rem_nat (a n:Nat):((a:Nat):Int).tmod ((n:Nat):Int)=((a % n:Nat):Int):=rfl
theorem subV_qb {m:Nat} {p q:V2} (hp:QB p.1 m∧QB p.2 m) (hq:QB q.1 m∧QB q.2 m):QB (p.1 - q.1) (2*m+1)∧QB (p.2 - q.2) (2*m+1):=⟨(hp.1.sub hq.1).mono (by omega),(hp.2.sub hq.2).mono (by omega)⟩
open Classical in
noncomputable def convB (l:List V2):Bool:=decide (Conv l)
theorem convB_f {l:List V2} (h: ¬Conv l):convB l=false:=by classical exact decide_eq_false h
theorem convB_t {l:List V2} (h:Conv l):convB l=true:=by classical exact decide_eq_true h
theorem of_convB {l:List V2} (h:convB l=true):Conv l:=by classical exact of_decide_eq_true h
def goodC (l:List V2) (i k:Nat):Prop:=0≤edg l i (at_ l k)∧(k≠i→k≠(i+1) % l.length→0<edg l i (at_ l k))
theorem convB_end {l:List V2} (h: ∀i k,i<l.length→k<l.length→goodC l i k):convB l=decide (((l.length:Nat):Int)≥3):=by
 by_cases h3:3≤l.length
 ·rw [convB_t ⟨h3,fun i k hi hk=>(h i k hi hk).1,fun i k hi hk=>(h i k hi hk).2⟩]
  exact (decide_eq_true (by omega)).symm
 ·rw [convB_f (fun hc=>h3 hc.three)]
  exact (decide_eq_false (by omega)).symm
inductive CaseC (z:Rat) (k i j:Nat):Prop
 |neg (h:z.num.sign<0) (h':z<0)
 |pos (h: ¬z.num.sign<0) (h': ¬z.num.sign=0) (h2:0<z)
 |atI (h: ¬z.num.sign<0) (h':z.num.sign=0) (h2:z=0) (e:k=i)
 |atJ (h: ¬z.num.sign<0) (h':z.num.sign=0) (h2:z=0) (n:k≠i) (e:k=j)
 |bad (h: ¬z.num.sign<0) (h':z.num.sign=0) (h2:z=0) (n:k≠i) (n':k≠j)
theorem caseC (z:Rat) (k i j:Nat):CaseC z k i j:=by
 have n0:z<0↔z.num<0:=by rw [Rat.lt_iff];simp
 have p0:0<z↔0<z.num:=by rw [Rat.lt_iff];simp
 rcases Int.lt_trichotomy z.num 0 with h|h|h
 ·exact .neg (by rw [Int.sign_eq_neg_one_of_neg h];decide) (n0.2 h)
 ·have hs:z.num.sign=0:=by rw [h];rfl
  have hz:z=0:=Rat.num_eq_zero.1 h
  by_cases h1:k=i
  ·exact .atI (by omega) hs hz h1
  ·by_cases h2:k=j
   ·exact .atJ (by omega) hs hz h1 h2
   ·exact .bad (by omega) hs hz h1 h2
 ·have hs:z.num.sign=1:=Int.sign_eq_one_of_pos h
  exact .pos (by omega) (by omega) (p0.2 h)
theorem r18conv_p {m:Nat} {W:World} {l:Value} {ps:List V2} (hl:(SF.row 6 (pvs m ps)).p l W) (hm:m≤50) (hm0:0<m) (hn:ps.length≤1000000):Calls Tryz.prog 21 #[l] W (Ret W (fB (convB ps)).toSF):=by
 have hq:=pvs_qb hm0 hl
 refine run_st [(UF.eq l).toSF] Tryz.func21 rfl (by kernel_rfl) ⟨rfl,trivial⟩ fun a s=> ?_
 replace s:=s.renew [(0, .u (UF.eq l))] (fmz ⟨.inr ⟨_,rfl, .head _⟩,fnz⟩)
 refine wpIn_seq ?_
 refine region_go 1 ((2, .u (UF.eq (.bool false))):: []) hmix s (by kernel_rfl)
  (oc (ok_assign)<|obs_nil) fun a w1 s=> ?_
 refine tail_end rfl ?_
 refine wpIn_seq ?_
 refine wpIn_seq ?_
 refine region_go 1 ((3, .u (UF.eq (.int .i64 (0)))):: []) hmix s (by kernel_rfl)
  (oc (ok_assign)<|obs_nil) fun a w2 s=> ?_
 refine tail_end rfl ?_
 refine wpIn_block ?_
 refine st_whileK (fun i=>i≤ps.length∧ ∀i',i'<i→ ∀k,k<ps.length→goodC ps i' k) (fun i=> [(0, .u (UF.eq l)),(3, .u (UF.eq (.int .i64 (((i:Nat):Int)))))]) (fun i=>ps.length - i) ((0:Nat)) (⟨Nat.zero_le _,fun j hj=>absurd hj (Nat.not_lt_zero _)⟩) (s.keepK _ (fmz ⟨mz2,fmz ⟨.head _,fnz⟩⟩)) fun i a w hx s=> ?_
 have hxi:=hx
 refine wpIn_seq ?_
 refine wpIn_seq ?_
 refine region_go 4 ((8, .s ((UF.eq (.int .i64 (((i:Nat):Int)))).toSF))::(9, .s ((UF.eq l).toSF))::(10, .s ((UF.eq (.int .i64 ((((pvs (m) (ps)).length:Nat):Int)))).toSF))::(11, .u (UF.eq (.bool (decide (((i:Nat):Int)<(((pvs (m) (ps)).length:Nat):Int)))))):: []) hmix s (by kernel_rfl)
  (oc ok_move<|oc ok_move<|oc (ok_lenB (z:=6) (Cs:=pvs (m) (ps)) (by kernel_rfl) (fun v W hb h=>(by rw [show _=l from h];exact (SF.row 6 (pvs (m) (ps))).st _ _ _ hl (s.up hb))) (fun _=>rfl))<|oc (ok_cmpI .i64 (((i:Nat):Int)) ((((pvs (m) (ps)).length:Nat):Int)) (decide (((i:Nat):Int)<(((pvs (m) (ps)).length:Nat):Int))) iiz iiz rfl rfl)<|obs_nil) fun a w3 s=> ?_
 refine tail_end rfl ?_
 refine StS.cond s (decide (((i:Nat):Int)<(((pvs (m) (ps)).length:Nat):Int))) iiz (fun e=> ?_) (fun e=> ?_)
 ·have hi:i<ps.length:=by have:=of_decide_eq_true e;simp at this;omega
  have hj:((i+1) % ps.length)<ps.length:=Nat.mod_lt _ (by omega)
  have hlz:(pvs m ps).length=ps.length:=by simp
  refine wpIn_skip ?_
  refine wpIn_seq ?_
  refine wpIn_block ?_
  refine wpIn_seq ?_
  have so:=s.old;have sg:=s.gr
  refine region_goA3 (fun i=> [4,5,6,7,8,9,10,11].contains i) [⟨12,4,31, [.bool false, .slice none 0 0, .slice none 0 0, .bool false, .slice none 0 0, .slice none 0 0],SF.newBox w3 31 (CU.len 6)⟩,⟨13,5,31, [.bool false, .slice none 0 0, .slice none 0 0, .bool false, .slice none 0 0, .slice none 0 0],SF.newBox w3 31 (CU.len 6)⟩] 14 ((14, .s ((UF.eq l).toSF))::(15, .s ((UF.eq (.int .i64 (((i:Nat):Int)))).toSF))::(16, .s (SF.ptr (CU.agg (fPV (m) ((at_ ps i)))).cf))::(17, .u (fPV (m) ((at_ ps i))))::(18, .s ((UF.eq l).toSF))::(19, .s ((UF.eq (.int .i64 (((i:Nat):Int)))).toSF))::(20, .s ((UF.eq (.int .i64 (((i+1:Nat):Int)))).toSF))::(21, .s ((UF.eq l).toSF))::(22, .s ((UF.eq (.int .i64 ((((pvs (m) (ps)).length:Nat):Int)))).toSF))::(23, .s ((UF.eq (.int .i64 (((((i+1) % ps.length):Nat):Int)))).toSF))::(24, .s ((fOp w3 (CU.agg (fPV (m) ((at_ ps ((i+1) % ps.length)))))).toSF))::(25, .u (fPV (m) ((at_ ps ((i+1) % ps.length)))))::(4, .s (SF.newBox w3 31 (CU.len 6)))::(5, .s (SF.newBox w3 31 (CU.len 6))):: []) hmix s (fmz ⟨⟨by show 12<14;decide,mz12,⟨_,_,_,rfl⟩,by kernel_rfl,own_new (fun _=>rfl) rfl⟩,fmz ⟨⟨by show 13<14;decide,mz13,⟨_,_,_,rfl⟩,by kernel_rfl,own_new (fun _=>rfl) rfl⟩,fnz⟩⟩) (by kernel_rfl)
   (oc ok_move<|oc ok_move<|oc (ok_indexB (z:=6) (Cs:=pvs (m) (ps)) (i:=i) (C:=CU.agg (fPV (m) ((at_ ps i)))) (by kernel_rfl) (pvs_get hi) (fun v W hb h=>(by rw [show _=l from h];exact (SF.row 6 (pvs (m) (ps))).st _ _ _ hl (s.up hb))) iiz)<|oc (ok_ldW (f:=fPV (m) ((at_ ps i))) 6 (by kernel_rfl) (hz:=pt_len _ _))<|oc ok_move<|oc ok_move<|oc (ok_addI .i64 (((i:Nat):Int)) (1) (((i+1:Nat):Int)) iiz iiz (wrap64 _ _ (by omega) (by omega)))<|oc ok_move<|oc (ok_lenB (z:=6) (Cs:=pvs (m) (ps)) (by kernel_rfl) (fun v W hb h=>(by rw [show _=l from h];exact (SF.row 6 (pvs (m) (ps))).st _ _ _ hl (s.up hb))) (fun _=>rfl))<|oc (ok_remI .i64 (((i+1:Nat):Int)) ((((pvs (m) (ps)).length:Nat):Int)) ((((i+1) % ps.length):Nat):Int) iiz iiz (by omega) (by rw [hlz];exact rem_nat _ _))<|oc (ok_indexO (z:=6) (Cs:=pvs (m) (ps)) (i:=((i+1) % ps.length)) (C:=CU.agg (fPV (m) ((at_ ps ((i+1) % ps.length))))) (by kernel_rfl) (pvs_get hj) ((SF.row 6 (pvs (m) (ps))).st _ _ _ hl s.below) iiz iiz)<|oc (ok_loadO (fPV (m) ((at_ ps ((i+1) % ps.length)))) 6 (by kernel_rfl) iiz (pt_whole))<|oc (ok_alloc (cs:= [.bool false, .slice none 0 0, .slice none 0 0, .bool false, .slice none 0 0, .slice none 0 0]) (by kernel_rfl) (own_new (fun _=>rfl) rfl))<|oc (ok_alloc (cs:= [.bool false, .slice none 0 0, .slice none 0 0, .bool false, .slice none 0 0, .slice none 0 0]) (by kernel_rfl) (own_new (fun _=>rfl) rfl))<|obs_nil)
   (fds_of (fobs_cons (fun e=>absurd e (by decide))<|
   fobs_cons (fun e=>absurd e (by decide))<|
   fobs_cons (fun e=>absurd e (by decide))<|
   fobs_cons (fun e=>absurd e (by decide))<|
   fobs_cons (fun _=>fd_move)<|
   fobs_cons (fun _=>fd_move)<|
   fobs_cons (fun _=>fd_addI .i64 (((i:Nat):Int)) (1) iiz iiz)<|
   fobs_cons (fun _=>fd_move)<|
   fobs_cons (fun _=>fd_len (z:=6) (Cs:=pvs (m) (ps)) (by kernel_rfl) (fun v W hb h=>(by rw [show _=l from h];exact (SF.row 6 (pvs (m) (ps))).st _ _ _ hl (s.up hb))))<|
   fobs_cons (fun _=>fd_remI .i64 (((i+1:Nat):Int)) ((((pvs (m) (ps)).length:Nat):Int)) iiz iiz (by omega))<|
   fobs_cons (fun _=>fd_indexO (z:=6) (Cs:=pvs (m) (ps)) (i:=((i+1) % ps.length)) (C:=CU.agg (fPV (m) ((at_ ps ((i+1) % ps.length))))) (by kernel_rfl) (pvs_get hj) ((SF.row 6 (pvs (m) (ps))).st _ _ _ hl s.below) iiz iiz)<|
   fobs_cons (fun _=>fd_loadO (fPV (m) ((at_ ps ((i+1) % ps.length)))) 6 (by kernel_rfl) iiz (pt_whole))<|
   fobs_cons (fun e=>absurd e (by decide))<|
   fobs_cons (fun e=>absurd e (by decide))<|fobs_nil)) fun Q' hQ a w4 hg s hr hd=> ?_
  obtain ⟨b4,hB4,e4,s⟩:=s.adoptA false 4 (hr (_,_) mz12) sg (fun y hy=> .inl (so y hy))
  obtain ⟨b5,hB5,e5,s⟩:=s.adoptA false 5 (hr (_,_) mz13) sg (fun y hy=>by rcases List.mem_cons.1 hy with rfl|hy;exact .inr (.inr fun b hb=>hd _ _ (.head _) mz1 (by show 12≠13;decide) _ _ e4 hb);exact .inl (so y hy))
  refine tC_store (CU.agg (fPV (m) ((at_ ps i)))) ((fPV (m) ((at_ ps i))).toSF) rfl s hg (by kernel_rfl) rfl rfl hB4 rfl iiz iiz (pt_store) fun a w s hg=> ?_
  refine tC_store (CU.agg (fPV (m) ((at_ ps ((i+1) % ps.length))))) ((fPV (m) ((at_ ps ((i+1) % ps.length)))).toSF) rfl s hg (by kernel_rfl) rfl rfl hB5 rfl iiz iiz (pt_store) fun a w s hg=> ?_
  refine tailC_end rfl (hQ _ _ ?_)
  refine wpIn_seq ?_
  refine region_go 1 ((6, .u (UF.eq (.int .i64 (0)))):: []) hmix s (by kernel_rfl)
   (oc (ok_assign)<|obs_nil) fun a w5 s=> ?_
  refine tail_end rfl ?_
  refine wpIn_block ?_
  refine st_whileK (fun k=>k≤ps.length∧ ∀k',k'<k→goodC ps i k') (fun k=> [(0, .u (UF.eq l)),(3, .u (UF.eq (.int .i64 (((i:Nat):Int))))),(6, .u (UF.eq (.int .i64 (((k:Nat):Int)))))]) (fun k=>ps.length - k) ((0:Nat)) (⟨Nat.zero_le _,fun j hj=>absurd hj (Nat.not_lt_zero _)⟩) (s.keepK _ (fmz ⟨mz4,fmz ⟨mz5,fmz ⟨.head _,fnz⟩⟩⟩)) fun k a w hx s=> ?_
  refine wpIn_seq ?_
  refine wpIn_seq ?_
  refine region_go 4 ((26, .s ((UF.eq (.int .i64 (((k:Nat):Int)))).toSF))::(27, .s ((UF.eq l).toSF))::(28, .s ((UF.eq (.int .i64 ((((pvs (m) (ps)).length:Nat):Int)))).toSF))::(29, .u (UF.eq (.bool (decide (((k:Nat):Int)<(((pvs (m) (ps)).length:Nat):Int)))))):: []) hmix s (by kernel_rfl)
   (oc ok_move<|oc ok_move<|oc (ok_lenB (z:=6) (Cs:=pvs (m) (ps)) (by kernel_rfl) (fun v W hb h=>(by rw [show _=l from h];exact (SF.row 6 (pvs (m) (ps))).st _ _ _ hl (s.up hb))) (fun _=>rfl))<|oc (ok_cmpI .i64 (((k:Nat):Int)) ((((pvs (m) (ps)).length:Nat):Int)) (decide (((k:Nat):Int)<(((pvs (m) (ps)).length:Nat):Int))) iiz iiz rfl rfl)<|obs_nil) fun a w6 s=> ?_
  refine tail_end rfl ?_
  refine StS.cond s (decide (((k:Nat):Int)<(((pvs (m) (ps)).length:Nat):Int))) iiz (fun e=> ?_) (fun e=> ?_)
  ·have hk:k<ps.length:=by have:=of_decide_eq_true e;simp at this;omega
   refine wpIn_skip ?_
   refine wpIn_seq ?_
   refine wpIn_block ?_
   refine wpIn_seq ?_
   refine region_go 12 ((32, .s ((fPV (m) ((at_ ps ((i+1) % ps.length)))).toSF))::(33, .s ((fPV (m) ((at_ ps i))).toSF))::(34, .s ((fPN ((((at_ ps ((i+1) % ps.length))).1 - ((at_ ps i)).1,((at_ ps ((i+1) % ps.length))).2 - ((at_ ps i)).2))).toSF))::(35, .s ((UF.eq l).toSF))::(36, .s ((UF.eq (.int .i64 (((k:Nat):Int)))).toSF))::(37, .s (SF.ptr (CU.agg (fPV (m) ((at_ ps k)))).cf))::(38, .s ((fPV (m) ((at_ ps k))).toSF))::(39, .s ((fPV (m) ((at_ ps i))).toSF))::(40, .s ((fPN ((((at_ ps k)).1 - ((at_ ps i)).1,((at_ ps k)).2 - ((at_ ps i)).2))).toSF))::(41, .s ((fQN ((edg ps i (at_ ps k)))).toSF))::(42, .s ((UF.eq (.int .i64 ((edg ps i (at_ ps k)).num.sign))).toSF))::(7, .u (UF.eq (.int .i64 ((edg ps i (at_ ps k)).num.sign)))):: []) hmix s (by kernel_rfl)
    (oc (ok_ldW (f:=fPV (m) ((at_ ps ((i+1) % ps.length)))) 6 (by kernel_rfl) (hz:=pt_len _ _))<|oc (ok_ldW (f:=fPV (m) ((at_ ps i))) 6 (by kernel_rfl) (hz:=pt_len _ _))<|oc (ok_call2 wide_wide en_58 (fun u0 u1 W hb (h0:(fPV (m) ((at_ ps ((i+1) % ps.length)))).p u0 W) (h1:(fPV (m) ((at_ ps i))).p u1 W)=>r8sub_p (m:=m) (p:=(at_ ps ((i+1) % ps.length))) (q:=(at_ ps i)) h0 h1 (by omega) hm0))<|oc ok_move<|oc ok_move<|oc (ok_indexB (z:=6) (Cs:=pvs (m) (ps)) (i:=k) (C:=CU.agg (fPV (m) ((at_ ps k)))) (by kernel_rfl) (pvs_get hk) (fun v W hb h=>(by rw [show _=l from h];exact (SF.row 6 (pvs (m) (ps))).st _ _ _ hl (s.up hb))) iiz)<|oc (ok_ldW (f:=fPV (m) ((at_ ps k))) 6 (by kernel_rfl) (hz:=pt_len _ _))<|oc (ok_ldW (f:=fPV (m) ((at_ ps i))) 6 (by kernel_rfl) (hz:=pt_len _ _))<|oc (ok_call2 wide_wide en_58 (fun u0 u1 W hb (h0:(fPV (m) ((at_ ps k))).p u0 W) (h1:(fPV (m) ((at_ ps i))).p u1 W)=>r8sub_p (m:=m) (p:=(at_ ps k)) (q:=(at_ ps i)) h0 h1 (by omega) hm0))<|oc (ok_call2 wide_wide en_67 (fun u0 u1 W hb (h0:(fPN ((((at_ ps ((i+1) % ps.length))).1 - ((at_ ps i)).1,((at_ ps ((i+1) % ps.length))).2 - ((at_ ps i)).2))).p u0 W) (h1:(fPN ((((at_ ps k)).1 - ((at_ ps i)).1,((at_ ps k)).2 - ((at_ ps i)).2))).p u1 W)=>r8cross_p (m:=2*m+1) (p:=(((at_ ps ((i+1) % ps.length))).1 - ((at_ ps i)).1,((at_ ps ((i+1) % ps.length))).2 - ((at_ ps i)).2)) (q:=(((at_ ps k)).1 - ((at_ ps i)).1,((at_ ps k)).2 - ((at_ ps i)).2)) (pn_pv (p:=(((at_ ps ((i+1) % ps.length))).1 - ((at_ ps i)).1,((at_ ps ((i+1) % ps.length))).2 - ((at_ ps i)).2)) (m:=(2*m+1)) ((subV_qb (hq _ (at_mem hj)) (hq _ (at_mem hi))).1.mono (by first|omega|decide)) ((subV_qb (hq _ (at_mem hj)) (hq _ (at_mem hi))).2.mono (by first|omega|decide)) h0) (pn_pv (p:=(((at_ ps k)).1 - ((at_ ps i)).1,((at_ ps k)).2 - ((at_ ps i)).2)) (m:=(2*m+1)) ((subV_qb (hq _ (at_mem hk)) (hq _ (at_mem hi))).1.mono (by first|omega|decide)) ((subV_qb (hq _ (at_mem hk)) (hq _ (at_mem hi))).2.mono (by first|omega|decide)) h1) (subV_qb (hq _ (at_mem hj)) (hq _ (at_mem hi))) (subV_qb (hq _ (at_mem hk)) (hq _ (at_mem hi))) (by omega) (by omega)))<|oc (ok_call1 wide_wide en_42 (fun u0 W hb (h0:QNp ((edg ps i (at_ ps k))) u0 W)=>r7sign_q (m:=((2*m+1)+(2*m+1)+((2*m+1)+(2*m+1))+1)) (QNp.rv h0 (((subV_qb (hq _ (at_mem hj)) (hq _ (at_mem hi))).1.mul (subV_qb (hq _ (at_mem hk)) (hq _ (at_mem hi))).2).sub ((subV_qb (hq _ (at_mem hj)) (hq _ (at_mem hi))).2.mul (subV_qb (hq _ (at_mem hk)) (hq _ (at_mem hi))).1))) (by omega)))<|oc (ok_assign)<|obs_nil) fun a w7 s=> ?_
   refine tail_end rfl ?_
   refine wpIn_seq ?_
   rcases caseC (edg ps i (at_ ps k)) k i ((i+1) % ps.length) with ⟨c1,c2⟩|⟨c1,c2,c3⟩|⟨c1,c2,c3,c4⟩|⟨c1,c2,c3,c4,c5⟩|⟨c1,c2,c3,c4,c5⟩
   ·refine region_go 0 [] hmix s (by kernel_rfl)
     obs_nil fun a w8 s=> ?_
    refine t_gd (UF.eq (.int .i64 ((edg ps i (at_ ps k)).num.sign))) rfl s (by kernel_rfl) (ok_move) (by kernel_rfl) fun a w s=> ?_
    refine t_gd (UF.eq (.bool true)) rfl s (by kernel_rfl) (ok_cmpI .i64 ((edg ps i (at_ ps k)).num.sign) (0) true iiz iiz (decide_eq_true c1) rfl) (by kernel_rfl) fun a w s=> ?_
    refine t_gd (UF.eq (.bool true)) rfl s (by kernel_rfl) (ok_move) (by kernel_rfl) fun a w s=> ?_
    refine t_skip (.bool true) rfl rfl s iiz (by kernel_rfl) (by kernel_rfl) (fun a w s=> ?_)
    refine t_skip (.bool true) rfl rfl s iiz (by kernel_rfl) (by kernel_rfl) (fun a w s=> ?_)
    refine t_skip (.bool true) rfl rfl s iiz (by kernel_rfl) (by kernel_rfl) (fun a w s=> ?_)
    refine t_skip (undef) rfl rfl s iiz (by kernel_rfl) (by kernel_rfl) (fun a w s=> ?_)
    refine t_skip (undef) rfl rfl s iiz (by kernel_rfl) (by kernel_rfl) (fun a w s=> ?_)
    refine t_skip (undef) rfl rfl s iiz (by kernel_rfl) (by kernel_rfl) (fun a w s=> ?_)
    refine t_skip (.bool true) rfl rfl s iiz (by kernel_rfl) (by kernel_rfl) (fun a w s=> ?_)
    refine t_skip (.bool true) rfl rfl s iiz (by kernel_rfl) (by kernel_rfl) (fun a w s=> ?_)
    refine t_skip (undef) rfl rfl s iiz (by kernel_rfl) (by kernel_rfl) (fun a w s=> ?_)
    refine t_skip (undef) rfl rfl s iiz (by kernel_rfl) (by kernel_rfl) (fun a w s=> ?_)
    refine t_skip (undef) rfl rfl s iiz (by kernel_rfl) (by kernel_rfl) (fun a w s=> ?_)
    refine t_skip (undef) rfl rfl s iiz (by kernel_rfl) (by kernel_rfl) (fun a w s=> ?_)
    refine t_skip (undef) rfl rfl s iiz (by kernel_rfl) (by kernel_rfl) (fun a w s=> ?_)
    refine t_skip (undef) rfl rfl s iiz (by kernel_rfl) (by kernel_rfl) (fun a w s=> ?_)
    refine t_skip (undef) rfl rfl s iiz (by kernel_rfl) (by kernel_rfl) (fun a w s=> ?_)
    refine t_skip (.bool true) rfl rfl s iiz (by kernel_rfl) (by kernel_rfl) (fun a w s=> ?_)
    refine t_gd (UF.eq (.bool true)) rfl s (by kernel_rfl) (ok_pick true iiz (fun _ _ _ h=>h) (fun e=>by cases e)) (by kernel_rfl) fun a w s=> ?_
    refine tail_end rfl ?_
    refine StS.cond s true iiz (fun e=> ?_) (fun e=>by cases e)
    refine wpIn_seq ?_
    refine region_go 1 ((2, .u (UF.eq (.bool false))):: []) hmix s (by kernel_rfl)
     (oc (ok_assign)<|obs_nil) fun a w9 s=> ?_
    refine tail_end rfl ?_
    refine wpIn_ret ?_
    exact StS.res1 s (t:=2) rfl (fun v W h=>by rw [convB_f (fun hc=>Rat.not_le.2 c2 (hc.left i k hi hk))];exact h)
   ·refine region_go 0 [] hmix s (by kernel_rfl)
     obs_nil fun a w10 s=> ?_
    refine t_gd (UF.eq (.int .i64 ((edg ps i (at_ ps k)).num.sign))) rfl s (by kernel_rfl) (ok_move) (by kernel_rfl) fun a w s=> ?_
    refine t_gd (UF.eq (.bool false)) rfl s (by kernel_rfl) (ok_cmpI .i64 ((edg ps i (at_ ps k)).num.sign) (0) false iiz iiz (decide_eq_false c1) rfl) (by kernel_rfl) fun a w s=> ?_
    refine t_gd (UF.eq (.bool false)) rfl s (by kernel_rfl) (ok_move) (by kernel_rfl) fun a w s=> ?_
    refine t_gdW (UF.eq (.int .i64 ((edg ps i (at_ ps k)).num.sign))) rfl rfl s iiz (by kernel_rfl) (ok_move) (by kernel_rfl) fun a w s=> ?_
    refine t_gdW (UF.eq (.bool false)) rfl rfl s iiz (by kernel_rfl) (ok_cmpI .i64 ((edg ps i (at_ ps k)).num.sign) (0) false iiz iiz (beq_eq_false_iff_ne.2 c2) rfl) (by kernel_rfl) fun a w s=> ?_
    refine t_gdW (UF.eq (.bool false)) rfl rfl s iiz (by kernel_rfl) (ok_move) (by kernel_rfl) fun a w s=> ?_
    refine t_skip (.bool false) rfl rfl s iiz (by kernel_rfl) (by kernel_rfl) (fun a w s=> ?_)
    refine t_skip (.bool false) rfl rfl s iiz (by kernel_rfl) (by kernel_rfl) (fun a w s=> ?_)
    refine t_skip (.bool false) rfl rfl s iiz (by kernel_rfl) (by kernel_rfl) (fun a w s=> ?_)
    refine t_gdW (UF.eq (.bool false)) rfl rfl s iiz (by kernel_rfl) (ok_pick false iiz (fun e=>by cases e) (fun _ _ _ h=>h)) (by kernel_rfl) fun a w s=> ?_
    refine t_gdW (UF.eq (.bool false)) rfl rfl s iiz (by kernel_rfl) (ok_move) (by kernel_rfl) fun a w s=> ?_
    refine t_skip (.bool false) rfl rfl s iiz (by kernel_rfl) (by kernel_rfl) (fun a w s=> ?_)
    refine t_skip (.bool false) rfl rfl s iiz (by kernel_rfl) (by kernel_rfl) (fun a w s=> ?_)
    refine t_skip (.bool false) rfl rfl s iiz (by kernel_rfl) (by kernel_rfl) (fun a w s=> ?_)
    refine t_skip (.bool false) rfl rfl s iiz (by kernel_rfl) (by kernel_rfl) (fun a w s=> ?_)
    refine t_skip (.bool false) rfl rfl s iiz (by kernel_rfl) (by kernel_rfl) (fun a w s=> ?_)
    refine t_skip (.bool false) rfl rfl s iiz (by kernel_rfl) (by kernel_rfl) (fun a w s=> ?_)
    refine t_skip (.bool false) rfl rfl s iiz (by kernel_rfl) (by kernel_rfl) (fun a w s=> ?_)
    refine t_gdW (UF.eq (.bool false)) rfl rfl s iiz (by kernel_rfl) (ok_pick false iiz (fun e=>by cases e) (fun _ _ _ h=>h)) (by kernel_rfl) fun a w s=> ?_
    refine t_gd (UF.eq (.bool false)) rfl s (by kernel_rfl) (ok_pick false iiz (fun e=>by cases e) (fun _ _ _ h=>h)) (by kernel_rfl) fun a w s=> ?_
    refine tail_end rfl ?_
    refine StS.cond s false iiz (fun e=>by cases e) (fun e=> ?_)
    refine wpIn_skip ?_
    have hgood:goodC ps i k:=⟨Rat.le_of_lt c3,fun _ _=>c3⟩
    refine region_goS 2 ((30, .s ((UF.eq (.int .i64 (((k:Nat):Int)))).toSF))::(31, .u (UF.eq (.int .i64 (((k+1:Nat):Int))))):: []) s (by kernel_rfl)
     (oc ok_move<|oc (ok_addI .i64 (((k:Nat):Int)) (1) (((k+1:Nat):Int)) iiz iiz (wrap64 _ _ (by omega) (by omega)))<|obs_nil) fun a w11 s=> ?_
    replace s:=s.drop [6]
    refine t_set (UF.eq (.int .i64 (((k+1:Nat):Int)))) rfl s (by kernel_rfl) iiz fun a w s=> ?_
    refine tail_end rfl ?_
    exact ⟨k+1,⟨hk,fun j hj=>by rcases Nat.lt_or_eq_of_le (Nat.le_of_lt_succ hj) with h|h;exact hx.2 j h;rw [h];exact hgood⟩,(by show ps.length - (k+1)<ps.length - k;omega),s.keepK _ (fmz ⟨.tail _ (.tail _ (.tail _ (.tail _ (.tail _ (.tail _ (.tail _ (.tail _ (.tail _ mz15)))))))),fmz ⟨.tail _ (.tail _ (.tail _ (.tail _ (.tail _ (.tail _ (.tail _ (.tail _ (.tail _ (.tail _ mz15))))))))),fmz ⟨.head _,fnz⟩⟩⟩)⟩
   ·refine region_go 0 [] hmix s (by kernel_rfl)
     obs_nil fun a w12 s=> ?_
    refine t_gd (UF.eq (.int .i64 ((edg ps i (at_ ps k)).num.sign))) rfl s (by kernel_rfl) (ok_move) (by kernel_rfl) fun a w s=> ?_
    refine t_gd (UF.eq (.bool false)) rfl s (by kernel_rfl) (ok_cmpI .i64 ((edg ps i (at_ ps k)).num.sign) (0) false iiz iiz (decide_eq_false c1) rfl) (by kernel_rfl) fun a w s=> ?_
    refine t_gd (UF.eq (.bool false)) rfl s (by kernel_rfl) (ok_move) (by kernel_rfl) fun a w s=> ?_
    refine t_gdW (UF.eq (.int .i64 ((edg ps i (at_ ps k)).num.sign))) rfl rfl s iiz (by kernel_rfl) (ok_move) (by kernel_rfl) fun a w s=> ?_
    refine t_gdW (UF.eq (.bool true)) rfl rfl s iiz (by kernel_rfl) (ok_cmpI .i64 ((edg ps i (at_ ps k)).num.sign) (0) true iiz iiz (beq_iff_eq.2 c2) rfl) (by kernel_rfl) fun a w s=> ?_
    refine t_gdW (UF.eq (.bool true)) rfl rfl s iiz (by kernel_rfl) (ok_move) (by kernel_rfl) fun a w s=> ?_
    refine t_gdW (UF.eq (.int .i64 (((k:Nat):Int)))) rfl rfl s iiz (by kernel_rfl) (ok_move) (by kernel_rfl) fun a w s=> ?_
    refine t_gdW (UF.eq (.int .i64 (((i:Nat):Int)))) rfl rfl s iiz (by kernel_rfl) (ok_move) (by kernel_rfl) fun a w s=> ?_
    refine t_gdW (UF.eq (.bool false)) rfl rfl s iiz (by kernel_rfl) (ok_cmpI .i64 (((k:Nat):Int)) (((i:Nat):Int)) false iiz iiz (by rw [c4];exact bne_self_eq_false _) rfl) (by kernel_rfl) fun a w s=> ?_
    refine t_gdW (UF.eq (.bool false)) rfl rfl s iiz (by kernel_rfl) (ok_pick true iiz (fun _ _ _ h=>h) (fun e=>by cases e)) (by kernel_rfl) fun a w s=> ?_
    refine t_gdW (UF.eq (.bool false)) rfl rfl s iiz (by kernel_rfl) (ok_move) (by kernel_rfl) fun a w s=> ?_
    refine t_skip (.bool false) rfl rfl s iiz (by kernel_rfl) (by kernel_rfl) (fun a w s=> ?_)
    refine t_skip (.bool false) rfl rfl s iiz (by kernel_rfl) (by kernel_rfl) (fun a w s=> ?_)
    refine t_skip (.bool false) rfl rfl s iiz (by kernel_rfl) (by kernel_rfl) (fun a w s=> ?_)
    refine t_skip (.bool false) rfl rfl s iiz (by kernel_rfl) (by kernel_rfl) (fun a w s=> ?_)
    refine t_skip (.bool false) rfl rfl s iiz (by kernel_rfl) (by kernel_rfl) (fun a w s=> ?_)
    refine t_skip (.bool false) rfl rfl s iiz (by kernel_rfl) (by kernel_rfl) (fun a w s=> ?_)
    refine t_skip (.bool false) rfl rfl s iiz (by kernel_rfl) (by kernel_rfl) (fun a w s=> ?_)
    refine t_gdW (UF.eq (.bool false)) rfl rfl s iiz (by kernel_rfl) (ok_pick false iiz (fun e=>by cases e) (fun _ _ _ h=>h)) (by kernel_rfl) fun a w s=> ?_
    refine t_gd (UF.eq (.bool false)) rfl s (by kernel_rfl) (ok_pick false iiz (fun e=>by cases e) (fun _ _ _ h=>h)) (by kernel_rfl) fun a w s=> ?_
    refine tail_end rfl ?_
    refine StS.cond s false iiz (fun e=>by cases e) (fun e=> ?_)
    refine wpIn_skip ?_
    have hgood:goodC ps i k:=⟨by rw [c3];exact Rat.le_refl,fun h _=>absurd c4 h⟩
    refine region_goS 2 ((30, .s ((UF.eq (.int .i64 (((k:Nat):Int)))).toSF))::(31, .u (UF.eq (.int .i64 (((k+1:Nat):Int))))):: []) s (by kernel_rfl)
     (oc ok_move<|oc (ok_addI .i64 (((k:Nat):Int)) (1) (((k+1:Nat):Int)) iiz iiz (wrap64 _ _ (by omega) (by omega)))<|obs_nil) fun a w13 s=> ?_
    replace s:=s.drop [6]
    refine t_set (UF.eq (.int .i64 (((k+1:Nat):Int)))) rfl s (by kernel_rfl) iiz fun a w s=> ?_
    refine tail_end rfl ?_
    exact ⟨k+1,⟨hk,fun j hj=>by rcases Nat.lt_or_eq_of_le (Nat.le_of_lt_succ hj) with h|h;exact hx.2 j h;rw [h];exact hgood⟩,(by show ps.length - (k+1)<ps.length - k;omega),s.keepK _ (fmz ⟨.tail _ (.tail _ (.tail _ (.tail _ (.tail _ (.tail _ (.tail _ (.tail _ (.tail _ mz15)))))))),fmz ⟨.tail _ (.tail _ (.tail _ (.tail _ (.tail _ (.tail _ (.tail _ (.tail _ (.tail _ (.tail _ mz15))))))))),fmz ⟨.head _,fnz⟩⟩⟩)⟩
   ·refine region_go 0 [] hmix s (by kernel_rfl)
     obs_nil fun a w14 s=> ?_
    refine t_gd (UF.eq (.int .i64 ((edg ps i (at_ ps k)).num.sign))) rfl s (by kernel_rfl) (ok_move) (by kernel_rfl) fun a w s=> ?_
    refine t_gd (UF.eq (.bool false)) rfl s (by kernel_rfl) (ok_cmpI .i64 ((edg ps i (at_ ps k)).num.sign) (0) false iiz iiz (decide_eq_false c1) rfl) (by kernel_rfl) fun a w s=> ?_
    refine t_gd (UF.eq (.bool false)) rfl s (by kernel_rfl) (ok_move) (by kernel_rfl) fun a w s=> ?_
    refine t_gdW (UF.eq (.int .i64 ((edg ps i (at_ ps k)).num.sign))) rfl rfl s iiz (by kernel_rfl) (ok_move) (by kernel_rfl) fun a w s=> ?_
    refine t_gdW (UF.eq (.bool true)) rfl rfl s iiz (by kernel_rfl) (ok_cmpI .i64 ((edg ps i (at_ ps k)).num.sign) (0) true iiz iiz (beq_iff_eq.2 c2) rfl) (by kernel_rfl) fun a w s=> ?_
    refine t_gdW (UF.eq (.bool true)) rfl rfl s iiz (by kernel_rfl) (ok_move) (by kernel_rfl) fun a w s=> ?_
    refine t_gdW (UF.eq (.int .i64 (((k:Nat):Int)))) rfl rfl s iiz (by kernel_rfl) (ok_move) (by kernel_rfl) fun a w s=> ?_
    refine t_gdW (UF.eq (.int .i64 (((i:Nat):Int)))) rfl rfl s iiz (by kernel_rfl) (ok_move) (by kernel_rfl) fun a w s=> ?_
    refine t_gdW (UF.eq (.bool true)) rfl rfl s iiz (by kernel_rfl) (ok_cmpI .i64 (((k:Nat):Int)) (((i:Nat):Int)) true iiz iiz (bne_iff_ne.2 (by omega)) rfl) (by kernel_rfl) fun a w s=> ?_
    refine t_gdW (UF.eq (.bool true)) rfl rfl s iiz (by kernel_rfl) (ok_pick true iiz (fun _ _ _ h=>h) (fun e=>by cases e)) (by kernel_rfl) fun a w s=> ?_
    refine t_gdW (UF.eq (.bool true)) rfl rfl s iiz (by kernel_rfl) (ok_move) (by kernel_rfl) fun a w s=> ?_
    refine t_gdW (UF.eq (.int .i64 (((k:Nat):Int)))) rfl rfl s iiz (by kernel_rfl) (ok_move) (by kernel_rfl) fun a w s=> ?_
    refine t_gdW (UF.eq (.int .i64 (((i:Nat):Int)))) rfl rfl s iiz (by kernel_rfl) (ok_move) (by kernel_rfl) fun a w s=> ?_
    refine t_gdW (UF.eq (.int .i64 (((i+1:Nat):Int)))) rfl rfl s iiz (by kernel_rfl) (ok_addI .i64 (((i:Nat):Int)) (1) (((i+1:Nat):Int)) iiz iiz (wrap64 _ _ (by omega) (by omega))) (by kernel_rfl) fun a w s=> ?_
    refine t_gdW (UF.eq l) rfl rfl s iiz (by kernel_rfl) (ok_move) (by kernel_rfl) fun a w s=> ?_
    refine t_gdW (UF.eq (.int .i64 ((((pvs (m) (ps)).length:Nat):Int)))) rfl rfl s iiz (by kernel_rfl) (ok_lenB (z:=6) (Cs:=pvs (m) (ps)) (by kernel_rfl) (fun v W hb h=>(by rw [show _=l from h];exact (SF.row 6 (pvs (m) (ps))).st _ _ _ hl (s.up hb))) (fun _=>rfl)) (by kernel_rfl) fun a w s=> ?_
    refine t_gdW (UF.eq (.int .i64 (((((i+1) % ps.length):Nat):Int)))) rfl rfl s iiz (by kernel_rfl) (ok_remI .i64 (((i+1:Nat):Int)) ((((pvs (m) (ps)).length:Nat):Int)) ((((i+1) % ps.length):Nat):Int) iiz iiz (by omega) (by rw [hlz];exact rem_nat _ _)) (by kernel_rfl) fun a w s=> ?_
    refine t_gdW (UF.eq (.bool false)) rfl rfl s iiz (by kernel_rfl) (ok_cmpI .i64 (((k:Nat):Int)) (((((i+1) % ps.length):Nat):Int)) false iiz iiz (by rw [c5];exact bne_self_eq_false _) rfl) (by kernel_rfl) fun a w s=> ?_
    refine t_gdW (UF.eq (.bool false)) rfl rfl s iiz (by kernel_rfl) (ok_pick true iiz (fun _ _ _ h=>h) (fun e=>by cases e)) (by kernel_rfl) fun a w s=> ?_
    refine t_gd (UF.eq (.bool false)) rfl s (by kernel_rfl) (ok_pick false iiz (fun e=>by cases e) (fun _ _ _ h=>h)) (by kernel_rfl) fun a w s=> ?_
    refine tail_end rfl ?_
    refine StS.cond s false iiz (fun e=>by cases e) (fun e=> ?_)
    refine wpIn_skip ?_
    have hgood:goodC ps i k:=⟨by rw [c3];exact Rat.le_refl,fun _ h=>absurd c5 h⟩
    refine region_goS 2 ((30, .s ((UF.eq (.int .i64 (((k:Nat):Int)))).toSF))::(31, .u (UF.eq (.int .i64 (((k+1:Nat):Int))))):: []) s (by kernel_rfl)
     (oc ok_move<|oc (ok_addI .i64 (((k:Nat):Int)) (1) (((k+1:Nat):Int)) iiz iiz (wrap64 _ _ (by omega) (by omega)))<|obs_nil) fun a w15 s=> ?_
    replace s:=s.drop [6]
    refine t_set (UF.eq (.int .i64 (((k+1:Nat):Int)))) rfl s (by kernel_rfl) iiz fun a w s=> ?_
    refine tail_end rfl ?_
    exact ⟨k+1,⟨hk,fun j hj=>by rcases Nat.lt_or_eq_of_le (Nat.le_of_lt_succ hj) with h|h;exact hx.2 j h;rw [h];exact hgood⟩,(by show ps.length - (k+1)<ps.length - k;omega),s.keepK _ (fmz ⟨.tail _ (.tail _ (.tail _ (.tail _ (.tail _ (.tail _ (.tail _ (.tail _ (.tail _ mz15)))))))),fmz ⟨.tail _ (.tail _ (.tail _ (.tail _ (.tail _ (.tail _ (.tail _ (.tail _ (.tail _ (.tail _ mz15))))))))),fmz ⟨.head _,fnz⟩⟩⟩)⟩
   ·refine region_go 0 [] hmix s (by kernel_rfl)
     obs_nil fun a w16 s=> ?_
    refine t_gd (UF.eq (.int .i64 ((edg ps i (at_ ps k)).num.sign))) rfl s (by kernel_rfl) (ok_move) (by kernel_rfl) fun a w s=> ?_
    refine t_gd (UF.eq (.bool false)) rfl s (by kernel_rfl) (ok_cmpI .i64 ((edg ps i (at_ ps k)).num.sign) (0) false iiz iiz (decide_eq_false c1) rfl) (by kernel_rfl) fun a w s=> ?_
    refine t_gd (UF.eq (.bool false)) rfl s (by kernel_rfl) (ok_move) (by kernel_rfl) fun a w s=> ?_
    refine t_gdW (UF.eq (.int .i64 ((edg ps i (at_ ps k)).num.sign))) rfl rfl s iiz (by kernel_rfl) (ok_move) (by kernel_rfl) fun a w s=> ?_
    refine t_gdW (UF.eq (.bool true)) rfl rfl s iiz (by kernel_rfl) (ok_cmpI .i64 ((edg ps i (at_ ps k)).num.sign) (0) true iiz iiz (beq_iff_eq.2 c2) rfl) (by kernel_rfl) fun a w s=> ?_
    refine t_gdW (UF.eq (.bool true)) rfl rfl s iiz (by kernel_rfl) (ok_move) (by kernel_rfl) fun a w s=> ?_
    refine t_gdW (UF.eq (.int .i64 (((k:Nat):Int)))) rfl rfl s iiz (by kernel_rfl) (ok_move) (by kernel_rfl) fun a w s=> ?_
    refine t_gdW (UF.eq (.int .i64 (((i:Nat):Int)))) rfl rfl s iiz (by kernel_rfl) (ok_move) (by kernel_rfl) fun a w s=> ?_
    refine t_gdW (UF.eq (.bool true)) rfl rfl s iiz (by kernel_rfl) (ok_cmpI .i64 (((k:Nat):Int)) (((i:Nat):Int)) true iiz iiz (bne_iff_ne.2 (by omega)) rfl) (by kernel_rfl) fun a w s=> ?_
    refine t_gdW (UF.eq (.bool true)) rfl rfl s iiz (by kernel_rfl) (ok_pick true iiz (fun _ _ _ h=>h) (fun e=>by cases e)) (by kernel_rfl) fun a w s=> ?_
    refine t_gdW (UF.eq (.bool true)) rfl rfl s iiz (by kernel_rfl) (ok_move) (by kernel_rfl) fun a w s=> ?_
    refine t_gdW (UF.eq (.int .i64 (((k:Nat):Int)))) rfl rfl s iiz (by kernel_rfl) (ok_move) (by kernel_rfl) fun a w s=> ?_
    refine t_gdW (UF.eq (.int .i64 (((i:Nat):Int)))) rfl rfl s iiz (by kernel_rfl) (ok_move) (by kernel_rfl) fun a w s=> ?_
    refine t_gdW (UF.eq (.int .i64 (((i+1:Nat):Int)))) rfl rfl s iiz (by kernel_rfl) (ok_addI .i64 (((i:Nat):Int)) (1) (((i+1:Nat):Int)) iiz iiz (wrap64 _ _ (by omega) (by omega))) (by kernel_rfl) fun a w s=> ?_
    refine t_gdW (UF.eq l) rfl rfl s iiz (by kernel_rfl) (ok_move) (by kernel_rfl) fun a w s=> ?_
    refine t_gdW (UF.eq (.int .i64 ((((pvs (m) (ps)).length:Nat):Int)))) rfl rfl s iiz (by kernel_rfl) (ok_lenB (z:=6) (Cs:=pvs (m) (ps)) (by kernel_rfl) (fun v W hb h=>(by rw [show _=l from h];exact (SF.row 6 (pvs (m) (ps))).st _ _ _ hl (s.up hb))) (fun _=>rfl)) (by kernel_rfl) fun a w s=> ?_
    refine t_gdW (UF.eq (.int .i64 (((((i+1) % ps.length):Nat):Int)))) rfl rfl s iiz (by kernel_rfl) (ok_remI .i64 (((i+1:Nat):Int)) ((((pvs (m) (ps)).length:Nat):Int)) ((((i+1) % ps.length):Nat):Int) iiz iiz (by omega) (by rw [hlz];exact rem_nat _ _)) (by kernel_rfl) fun a w s=> ?_
    refine t_gdW (UF.eq (.bool true)) rfl rfl s iiz (by kernel_rfl) (ok_cmpI .i64 (((k:Nat):Int)) (((((i+1) % ps.length):Nat):Int)) true iiz iiz (bne_iff_ne.2 (by omega)) rfl) (by kernel_rfl) fun a w s=> ?_
    refine t_gdW (UF.eq (.bool true)) rfl rfl s iiz (by kernel_rfl) (ok_pick true iiz (fun _ _ _ h=>h) (fun e=>by cases e)) (by kernel_rfl) fun a w s=> ?_
    refine t_gd (UF.eq (.bool true)) rfl s (by kernel_rfl) (ok_pick false iiz (fun e=>by cases e) (fun _ _ _ h=>h)) (by kernel_rfl) fun a w s=> ?_
    refine tail_end rfl ?_
    refine StS.cond s true iiz (fun e=> ?_) (fun e=>by cases e)
    refine wpIn_seq ?_
    refine region_go 1 ((2, .u (UF.eq (.bool false))):: []) hmix s (by kernel_rfl)
     (oc (ok_assign)<|obs_nil) fun a w17 s=> ?_
    refine tail_end rfl ?_
    refine wpIn_ret ?_
    exact StS.res1 s (t:=2) rfl (fun v W h=>by rw [convB_f (fun hc=>by have:=hc.strict i k hi hk c4 c5;rw [c3] at this;exact absurd this (Rat.lt_irrefl))];exact h)
  ·have hk:k=ps.length:=by have h7:=of_decide_eq_false e;have h8:=hx.1;simp at h7;omega
   refine wpIn_exit ?_
   refine region_goS 2 ((12, .s ((UF.eq (.int .i64 (((i:Nat):Int)))).toSF))::(13, .u (UF.eq (.int .i64 (((i+1:Nat):Int))))):: []) s (by kernel_rfl)
    (oc ok_move<|oc (ok_addI .i64 (((i:Nat):Int)) (1) (((i+1:Nat):Int)) iiz iiz (wrap64 _ _ (by omega) (by omega)))<|obs_nil) fun a w18 s=> ?_
   replace s:=s.drop [3]
   refine t_set (UF.eq (.int .i64 (((i+1:Nat):Int)))) rfl s (by kernel_rfl) iiz fun a w s=> ?_
   refine tail_end rfl ?_
   replace s:=s.popB
   replace s:=s.popB
   exact ⟨i+1,⟨hi,fun j hj k hk=>by rcases Nat.lt_or_eq_of_le (Nat.le_of_lt_succ hj) with h|h;exact hxi.2 j h k hk;rw [h];exact hx.2 k (by omega)⟩,(by show ps.length - (i+1)<ps.length - i;omega),s.keepK _ (fmz ⟨mz3,fmz ⟨.head _,fnz⟩⟩)⟩
 ·have hi:i=ps.length:=by have h7:=of_decide_eq_false e;have h8:=hx.1;simp at h7;omega
  refine wpIn_exit ?_
  refine wpIn_seq ?_
  refine region_go 4 ((63, .s ((UF.eq l).toSF))::(64, .s ((UF.eq (.int .i64 ((((pvs (m) (ps)).length:Nat):Int)))).toSF))::(65, .s ((UF.eq (.bool (decide ((((pvs (m) (ps)).length:Nat):Int)≥3)))).toSF))::(2, .u (UF.eq (.bool (decide ((((pvs (m) (ps)).length:Nat):Int)≥3))))):: []) hmix s (by kernel_rfl)
   (oc ok_move<|oc (ok_lenB (z:=6) (Cs:=pvs (m) (ps)) (by kernel_rfl) (fun v W hb h=>(by rw [show _=l from h];exact (SF.row 6 (pvs (m) (ps))).st _ _ _ hl (s.up hb))) (fun _=>rfl))<|oc (ok_cmpI .i64 ((((pvs (m) (ps)).length:Nat):Int)) (3) (decide ((((pvs (m) (ps)).length:Nat):Int)≥3)) iiz iiz rfl rfl)<|oc (ok_assign)<|obs_nil) fun a w19 s=> ?_
  refine tail_end rfl ?_
  refine wpIn_ret ?_
  exact StS.res1 s (t:=2) rfl (fun v W h=>by rw [convB_end (fun i' k h1 h2=>hx.2 i' (by omega) k h2)];rw [List.length_map] at h;exact h)
end Go.Proofs.Wd

namespace Go.Proofs.Wd
open Go.RowKit Lb
end Go.Proofs.Wd

namespace Go.Proofs.Wd
set_option maxRecDepth 100000
set_option maxHeartbeats 1000000
open Go.RowKit Lb
abbrev ints (L:List Int):List CU:=L.map fun z=>CU.is [.int .i64 z]
def gI (L:List Int) (i:Nat):Int:=L.getD i 0
theorem ints_get {L:List Int} {i:Nat} (h:i<L.length):(ints L)[i]?=some (CU.is [.int .i64 (gI L i)]):=by
 unfold ints gI;rw [List.getElem?_map,List.getD_eq_getElem?_getD,List.getElem?_eq_getElem h];rfl
def triK (L:List Int) (k:Nat):List V2:=(List.range k).map fun j=>(((gI L (2*j):Int):Rat),((gI L (2*j+1):Int):Rat))
theorem triK_snoc (L:List Int) (k:Nat):pns (triK L (k+1))=pns (triK L k)++ [CU.agg (fPN (((gI L (2*k):Int):Rat),((gI L (2*k+1):Int):Rat)))]:=by
 unfold triK pns
 rw [List.range_succ,List.map_append,List.map_append]
 rfl
theorem triK_len (L:List Int) (k:Nat):(triK L k).length=k:=by simp [triK]
def okIs (L:List Int):Prop:= ∀i,-9223372036854775808≤gI L i∧gI L i≤9223372036854775807
theorem tri_p {W:World} {l:Value} {L:List Int} (hl:(SF.row 1 (ints L)).p l W) (hL:okIs L) (hn:L.length≤1000000):Calls Tryz.prog 60 #[l] W (Ret W (SF.newRow W 31 6 (pns (triK L (L.length / 2))))):=by
 refine run_st [(UF.eq l).toSF] Tryz.func60 rfl (by kernel_rfl) ⟨rfl,trivial⟩ fun a s=> ?_
 replace s:=s.renew [(0, .u (UF.eq l))] (fmz ⟨.inr ⟨_,rfl, .head _⟩,fnz⟩)
 refine wpIn_seq ?_
 refine region_go 1 ((2, .u (UF.eq (.slice none 0 0))):: []) hmix s (by kernel_rfl)
  (oc (ok_assign)<|obs_nil) fun a w1 s=> ?_
 refine tail_end rfl ?_
 refine wpIn_seq ?_
 refine region_go 1 ((3, .u (UF.eq (.slice none 0 0))):: []) hmix s (by kernel_rfl)
  (oc (ok_assign)<|obs_nil) fun a w2 s=> ?_
 refine tail_end rfl ?_
 refine wpIn_seq ?_
 refine wpIn_seq ?_
 refine region_go 1 ((4, .u (UF.eq (.int .i64 (0)))):: []) hmix s (by kernel_rfl)
  (oc (ok_assign)<|obs_nil) fun a w3 s=> ?_
 refine tail_end rfl ?_
 refine wpIn_block ?_
 refine st_rows (fun (p:Nat×Value) w=>2*p.1≤L.length∧W.heap.size≤w.heap.size∧RowN w W.heap.size 31 6 p.2 (pns (triK L p.1))) (fun p=> [(0, .u (UF.eq l)),(3, .u (UF.eq (p.2))),(4, .u (UF.eq (.int .i64 (((2*p.1:Nat):Int)))))]) (fun p=>L.length - 2*p.1) ((0, .slice none 0 0)) (⟨Nat.zero_le _,s.gr.size,RowN.nil _ _ _ _⟩) (s.keepK _ (fmz ⟨mz3,fmz ⟨mz1,fmz ⟨.head _,fnz⟩⟩⟩)) fun p a w hI s=> ?_
 have s0:=s
 have hlw:=(SF.row 1 (ints L)).st _ _ _ hl s0.below
 replace s:=s.reb rfl [(0, .u (UF.eq l)),(3, .u (UF.eq (p.2))),(4, .u (UF.eq (.int .i64 (((2*p.1:Nat):Int)))))] (fmz ⟨.inl (.head _),fmz ⟨.inl mz1,fmz ⟨.inl mz2,fnz⟩⟩⟩)
 refine wpIn_seq ?_
 refine wpIn_seq ?_
 refine region_go 5 ((5, .s ((UF.eq (.int .i64 (((2*p.1:Nat):Int)))).toSF))::(6, .s ((UF.eq (.int .i64 (((2*p.1+1:Nat):Int)))).toSF))::(7, .s ((UF.eq l).toSF))::(8, .s ((UF.eq (.int .i64 ((((ints (L)).length:Nat):Int)))).toSF))::(9, .u (UF.eq (.bool (decide (((2*p.1+1:Nat):Int)<(((ints (L)).length:Nat):Int)))))):: []) hmix s (by kernel_rfl)
  (oc ok_move<|oc (ok_addI .i64 (((2*p.1:Nat):Int)) (1) (((2*p.1+1:Nat):Int)) iiz iiz (wrap64 _ _ (by omega) (by omega)))<|oc ok_move<|oc (ok_lenB (z:=1) (Cs:=ints (L)) (by kernel_rfl) (fun v W hb h=>(by rw [show _=l from h];exact (SF.row 1 (ints (L))).st _ _ _ hlw (s.up hb))) (fun _=>rfl))<|oc (ok_cmpI .i64 (((2*p.1+1:Nat):Int)) ((((ints (L)).length:Nat):Int)) (decide (((2*p.1+1:Nat):Int)<(((ints (L)).length:Nat):Int))) iiz iiz rfl rfl)<|obs_nil) fun a w4 s=> ?_
 refine tail_end rfl ?_
 refine StS.cond s (decide (((2*p.1+1:Nat):Int)<(((ints (L)).length:Nat):Int))) iiz (fun e=> ?_) (fun e=> ?_)
 ·have hk:2*p.1+1<L.length:=by have:=of_decide_eq_true e;simp at this;omega
  refine wpIn_skip ?_
  refine wpIn_seq ?_
  refine wpIn_block ?_
  refine region_goPSN (K:= [(9, .u (UF.eq (.bool (decide (((2*p.1+1:Nat):Int)<(((ints (L)).length:Nat):Int)))))),(0, .u (UF.eq l)),(4, .u (UF.eq (.int .i64 (((2*p.1:Nat):Int)))))]) [(3, .u (UF.eq (p.2)))] [0,1,2,5,6] 12 ((12, .u (UF.eq (p.2)))::(13, .s ((UF.eq l).toSF))::(14, .s ((UF.eq (.int .i64 (((2*p.1:Nat):Int)))).toSF))::(15, .s (SF.ptr (CU.is [.int .i64 (gI L (2*p.1))]).cf))::(16, .s ((UF.eq (.int .i64 (gI L (2*p.1)))).toSF))::(17, .s ((UF.eq l).toSF))::(18, .s ((UF.eq (.int .i64 (((2*p.1:Nat):Int)))).toSF))::(19, .s ((UF.eq (.int .i64 (((2*p.1+1:Nat):Int)))).toSF))::(20, .s (SF.ptr (CU.is [.int .i64 (gI L (2*p.1+1))]).cf))::(21, .s ((UF.eq (.int .i64 (gI L (2*p.1+1)))).toSF))::(22, .s ((fPN ((((gI L (2*p.1):Int):Rat),((gI L (2*p.1+1):Int):Rat)))).toSF))::(23, .s (SF.row 6 [CU.agg (fPN ((((gI L (2*p.1):Int):Rat),((gI L (2*p.1+1):Int):Rat))))])):: []) hmix (s.keepK _ (fmz ⟨mz2,fmz ⟨.head _,fmz ⟨mz1,fmz ⟨mz3,fnz⟩⟩⟩⟩)) (by kernel_rfl)
   (oc ok_move<|oc ok_move<|oc ok_move<|oc (ok_indexB (z:=1) (Cs:=ints (L)) (i:=(2*p.1)) (C:=CU.is [.int .i64 (gI L (2*p.1))]) (by kernel_rfl) (ints_get (by omega)) (fun v W hb h=>(by rw [show _=l from h];exact (SF.row 1 (ints (L))).st _ _ _ hlw (s.up hb))) iiz)<|oc (ok_load1 (C:=(CU.is [.int .i64 (gI L (2*p.1))]).cf) (by kernel_rfl) iiz (is_get))<|oc ok_move<|oc ok_move<|oc (ok_addI .i64 (((2*p.1:Nat):Int)) (1) (((2*p.1+1:Nat):Int)) iiz iiz (wrap64 _ _ (by omega) (by omega)))<|oc (ok_indexB (z:=1) (Cs:=ints (L)) (i:=(2*p.1+1)) (C:=CU.is [.int .i64 (gI L (2*p.1+1))]) (by kernel_rfl) (ints_get (by omega)) (fun v W hb h=>(by rw [show _=l from h];exact (SF.row 1 (ints (L))).st _ _ _ hlw (s.up hb))) iiz)<|oc (ok_load1 (C:=(CU.is [.int .i64 (gI L (2*p.1+1))]).cf) (by kernel_rfl) iiz (is_get))<|oc (ok_call2 wide_wide en_25 (fun u0 u1 W hb (h0:u0= .int .i64 (gI L (2*p.1))) (h1:u1= .int .i64 (gI L (2*p.1+1)))=>r8of_p h0 h1 (hL _) (hL _)))<|oc (ok_slice1 (fun u W (hu:(fPN ((((gI L (2*p.1):Int):Rat),((gI L (2*p.1+1):Int):Rat)))).p u W)=>sl_pt1 hu))<|obs_nil) fun Q' hQ a w5 s hr=> ?_
  refine t_app ([CU.agg (fPN ((((gI L (2*p.1):Int):Rat),((gI L (2*p.1+1):Int):Rat))))]) s0 (s.keepK [(12, .u (UF.eq (p.2))),(9, .u (UF.eq (.bool (decide (((2*p.1+1:Nat):Int)<(((ints (L)).length:Nat):Int)))))),(0, .u (UF.eq l)),(4, .u (UF.eq (.int .i64 (((2*p.1:Nat):Int)))))] (fmz ⟨.head _,fmz ⟨mz1,fmz ⟨mz2,fmz ⟨mz3,fnz⟩⟩⟩⟩)) (Nat.le_refl _) hI.2 rfl (by kernel_rfl) (by kernel_rfl) (by kernel_rfl) (s.fct (.tmp 12)) (hr (_,_) mz11) (one_ok _ _) (by simp [triK_len];omega) (fun q hq=>by cases hq) fun v' a w hI' s=> ?_
  have s1:=s
  replace s:=s.reb rfl [(24, .u (UF.eq (v'))),(12, .u (UF.eq (p.2))),(9, .u (UF.eq (.bool (decide (((2*p.1+1:Nat):Int)<(((ints (L)).length:Nat):Int)))))),(0, .u (UF.eq l)),(4, .u (UF.eq (.int .i64 (((2*p.1:Nat):Int)))))] (fmz ⟨.inl (.head _),fmz ⟨.inl mz1,fmz ⟨.inl mz2,fmz ⟨.inl mz3,fmz ⟨.inl mz4,fnz⟩⟩⟩⟩⟩)
  refine t_set (UF.eq (v')) rfl s (by kernel_rfl) iiz fun a w s=> ?_
  refine tail_end rfl (hQ _ _ ?_)
  refine region_goS 2 ((10, .s ((UF.eq (.int .i64 (((2*p.1:Nat):Int)))).toSF))::(11, .u (UF.eq (.int .i64 (((2*(p.1+1):Nat):Int))))):: []) s (by kernel_rfl)
   (oc ok_move<|oc (ok_addI .i64 (((2*p.1:Nat):Int)) (2) (((2*(p.1+1):Nat):Int)) iiz iiz (wrap64 _ _ (by omega) (by omega)))<|obs_nil) fun a w6 s=> ?_
  replace s:=s.drop [4]
  refine t_set (UF.eq (.int .i64 (((2*(p.1+1):Nat):Int)))) rfl s (by kernel_rfl) iiz fun a w s=> ?_
  refine tail_end rfl ?_
  have hbw:=s.below
  replace s:=s1.back (s.keepK [(4, .u (UF.eq (.int .i64 (((2*(p.1+1):Nat):Int))))),(11, .u (UF.eq (.int .i64 (((2*(p.1+1):Nat):Int))))),(3, .u (UF.eq (v'))),(24, .u (UF.eq (v'))),(12, .u (UF.eq (p.2))),(9, .u (UF.eq (.bool (decide (((2*p.1+1:Nat):Int)<(((ints (L)).length:Nat):Int)))))),(0, .u (UF.eq l))] (fmz ⟨.head _,fmz ⟨mz1,fmz ⟨mz2,fmz ⟨mz3,fmz ⟨mz4,fmz ⟨mz5,fmz ⟨mz6,fnz⟩⟩⟩⟩⟩⟩⟩)) rfl
  exact ⟨(p.1+1,v'),(by show L.length - 2*(p.1+1)<L.length - 2*p.1;omega),⟨by show 2*(p.1+1)≤_;omega,Nat.le_trans hI'.1 hbw.size,by show RowN _ _ _ _ _ (pns (triK L (p.1+1)));rw [triK_snoc];exact hI'.2.below hbw⟩,s.keepK _ (fmz ⟨mz6,fmz ⟨mz2,fmz ⟨.head _,fnz⟩⟩⟩)⟩
 ·have hk:p.1=L.length / 2:=by have h7:=of_decide_eq_false e;have h8:=hI.1;simp at h7;omega
  refine wpIn_exit ?_
  refine wpIn_seq ?_
  refine region_go 2 ((25, .s ((UF.eq (p.2)).toSF))::(2, .u (UF.eq (p.2))):: []) hmix s (by kernel_rfl)
   (oc ok_move<|oc (ok_assign)<|obs_nil) fun a w7 s=> ?_
  refine tail_end rfl ?_
  refine wpIn_ret ?_
  exact StS.resN s s0.below rfl (by rw [s.val (.head _)];have:=hI.2.2.below s.below;rw [hk] at this;exact this)
theorem sInt6 (a b c d e f:Int):sliceCells Tryz.prog 38 6 [(0, .int .i64 a),(1, .int .i64 b),(2, .int .i64 c),(3, .int .i64 d),(4, .int .i64 e),(5, .int .i64 f)]=some (3,#[.int .i64 a, .int .i64 b, .int .i64 c, .int .i64 d, .int .i64 e, .int .i64 f]):=by kernel_rfl
theorem row_ints {L:List Int} {n:Nat} {cs:Array Value} {e:TypeId} {W:World} (hn:L.length=n) (hc:cs.toList=L.map (.int .i64)):n≤1000→(SF.row 1 (ints L)).p (.slice (some ⟨W.heap.size,0,none⟩) n n) (W.alloc (.cells cs e)):=by
 intro h
 refine ⟨some ⟨W.heap.size,0,none⟩,n,by simp [hn],by simp [hn],by omega,fun e=>(by cases e),fun i C hi=> ?_⟩
 have hlt:i<L.length:=by have:=(List.getElem?_eq_some_iff.1 hi).1;simpa using this
 rw [ints_get hlt] at hi
 cases hi
 refine ⟨W.heap.size,0, [.int .i64 (gI L i)],rfl,fun j u hj=> ?_,rfl⟩
 obtain rfl:j=0:=by have:=(List.getElem?_eq_some_iff.1 hj).1;simp at this;omega
 obtain rfl:Value.int .i64 (gI L i)=u:=by simpa using hj
 have hm:=mem_new W cs e
 have h8:cs.toList[i]?=some (Value.int .i64 (gI L i)):=by
  rw [hc,List.getElem?_map]
  unfold gI
  rw [List.getD_eq_getElem?_getD,List.getElem?_eq_getElem hlt];rfl
 have:=hm i _ h8
 simpa using this
end Go.Proofs.Wd

namespace Go.Proofs.Wd
set_option maxRecDepth 100000
set_option maxHeartbeats 1000000
open Go.RowKit Lb
section
variable {F:Fence} {m:Nat} {P:Program} {w0:World} {ops:Array Oper} {G:Nat→SF} {d:Tmp} {ty:TypeId} {pos:String} {aft:Array Edge}
theorem ok_build3 {t:TypeId} {i j k:Nat} {x y z:Operand} (h: ∀u v q W,(fct G x).p u W→(fct G y).p v W→(fct G z).p q W→ ∃cells,P.built t [(i,u),(j,v),(k,q)]=some cells∧(G d).p (.agg cells) W):GdOK F m P w0 ops G ⟨some d, .build t #[(i,x),(j,y),(k,z)],ty,pos,aft,none⟩:=
 ok_build fun b W hb hh=>by
  obtain ⟨cells,h1,h2⟩:=h _ _ _ W (hh x (by simp)) (hh y (by simp)) (hh z (by simp))
  exact ⟨cells,by simpa using h1,h2⟩
end
theorem ok_slice6 {F:Fence} {m:Nat} {w0:World} {ops:Array Oper} {G:Nat→SF} {d:Tmp} {ty:TypeId} {pos:String} {aft:Array Edge} (a b c e f g:Int) (hd: ∀v W,(SF.row 1 (ints [a,b,c,e,f,g])).p v W→(G d).p v W):GdOK F m Tryz.prog w0 ops G ⟨some d, .buildSlice 38 6 #[(0, .const (.int .i64 a)),(1, .const (.int .i64 b)),(2, .const (.int .i64 c)),(3, .const (.int .i64 e)),(4, .const (.int .i64 f)),(5, .const (.int .i64 g))],ty,pos,aft,none⟩:=
 ok_slice fun bb W hb hh=>by
  have h1:=sInt6 a b c e f g
  have ev: ∀v:Value,bb.eval (.const v)=v:=fun _=>rfl
  refine ⟨3,#[.int .i64 a, .int .i64 b, .int .i64 c, .int .i64 e, .int .i64 f, .int .i64 g],by simpa [ev] using h1,hd _ _ (row_ints (L:= [a,b,c,e,f,g]) rfl rfl (by omega))⟩
theorem trB (s:Bool) (A A':Option Addr) (n n' c c':Nat) (s2:Bool) (B B':Option Addr) (k k' d d':Nat) (t:Bool) (C C':Option Addr) (i i' j j':Nat) (t2:Bool) (D D':Option Addr) (x x' y y':Nat) (r:Bool) (E E':Option Addr) (p p' q q':Nat) (r2:Bool) (F F':Option Addr) (g g' h h':Nat):Tryz.prog.built 33 [(0, .agg #[.bool s, .slice A n c, .slice A' n' c', .bool s2, .slice B k d, .slice B' k' d']),(1, .agg #[.bool t, .slice C i j, .slice C' i' j', .bool t2, .slice D x y, .slice D' x' y']),(2, .agg #[.bool r, .slice E p q, .slice E' p' q', .bool r2, .slice F g h, .slice F' g' h'])]=some #[.bool s, .slice A n c, .slice A' n' c', .bool s2, .slice B k d, .slice B' k' d', .bool t, .slice C i j, .slice C' i' j', .bool t2, .slice D x y, .slice D' x' y', .bool r, .slice E p q, .slice E' p' q', .bool r2, .slice F g h, .slice F' g' h']:=by kernel_rfl
theorem b_tr {m:Nat} {t:V6} {u v q:Value} {W:World} (hu:(fPV m t.1).p u W) (hv:(fPV m t.2.1).p v W) (hq:(fPV m t.2.2).p q W): ∃cells,Tryz.prog.built 33 [(0,u),(1,v),(2,q)]=some cells∧(fTR m t).p (.agg cells) W:=by
 obtain ⟨s,A,n,c,A',n',c',s2,B,k,d,B',k',d',rfl,h1,h2⟩:=hu
 obtain ⟨s3,A3,n3,c3,A4,n4,c4,s4,B3,k3,d3,B4,k4,d4,rfl,h3,h4⟩:=hv
 obtain ⟨s5,A5,n5,c5,A6,n6,c6,s6,B5,k5,d5,B6,k6,d6,rfl,h5,h6⟩:=hq
 exact ⟨_,trB ..,_,_,_,rfl,⟨s,A,n,c,A',n',c',s2,B,k,d,B',k',d',rfl,h1,h2⟩,⟨s3,A3,n3,c3,A4,n4,c4,s4,B3,k3,d3,B4,k4,d4,rfl,h3,h4⟩,⟨s5,A5,n5,c5,A6,n6,c6,s6,B5,k5,d5,B6,k6,d6,rfl,h5,h6⟩⟩
theorem sTr1 (u0 u1 u2 u3 u4 u5 u6 u7 u8 u9 u10 u11 u12 u13 u14 u15 u16 u17:Value):sliceCells Tryz.prog 23 1 [(0, .agg #[u0,u1,u2,u3,u4,u5,u6,u7,u8,u9,u10,u11,u12,u13,u14,u15,u16,u17])]=some (33,#[u0,u1,u2,u3,u4,u5,u6,u7,u8,u9,u10,u11,u12,u13,u14,u15,u16,u17]):=by kernel_rfl
theorem sTr2 (u0 u1 u2 u3 u4 u5 u6 u7 u8 u9 u10 u11 u12 u13 u14 u15 u16 u17 v0 v1 v2 v3 v4 v5 v6 v7 v8 v9 v10 v11 v12 v13 v14 v15 v16 v17:Value):sliceCells Tryz.prog 23 2 [(0, .agg #[u0,u1,u2,u3,u4,u5,u6,u7,u8,u9,u10,u11,u12,u13,u14,u15,u16,u17]),(1, .agg #[v0,v1,v2,v3,v4,v5,v6,v7,v8,v9,v10,v11,v12,v13,v14,v15,v16,v17])]=some (33,#[u0,u1,u2,u3,u4,u5,u6,u7,u8,u9,u10,u11,u12,u13,u14,u15,u16,u17,v0,v1,v2,v3,v4,v5,v6,v7,v8,v9,v10,v11,v12,v13,v14,v15,v16,v17]):=by kernel_rfl
theorem list18 {cs:List Value} (h:cs.length=18): ∃u0 u1 u2 u3 u4 u5 u6 u7 u8 u9 u10 u11 u12 u13 u14 u15 u16 u17,cs= [u0,u1,u2,u3,u4,u5,u6,u7,u8,u9,u10,u11,u12,u13,u14,u15,u16,u17]:=by
 match cs,h with
 | [u0,u1,u2,u3,u4,u5,u6,u7,u8,u9,u10,u11,u12,u13,u14,u15,u16,u17],_=>exact ⟨u0,u1,u2,u3,u4,u5,u6,u7,u8,u9,u10,u11,u12,u13,u14,u15,u16,u17,rfl⟩
theorem tr_list {m:Nat} {t:V6} {v:Value} {W:World} (h:(fTR m t).p v W): ∃cs:List Value,v= .agg cs.toArray∧cs.length=18∧(CU.agg (fTR m t)).p cs W:=by
 obtain ⟨a,b,c,rfl,h1⟩:=id h
 exact ⟨_,rfl,(tr_ok m t _ W h).1,h⟩
theorem sl_tr1 {m:Nat} {t:V6} {u:Value} {W:World} (h:(fTR m t).p u W): ∃e cs,sliceCells Tryz.prog 23 1 [(0,u)]=some (e,cs)∧(SF.row 18 (trs m [t])).p (.slice (some ⟨W.heap.size,0,none⟩) 1 1) (W.alloc (.cells cs e)):=by
 obtain ⟨cs,rfl,l,hc⟩:=tr_list h
 obtain ⟨u0,u1,u2,u3,u4,u5,u6,u7,u8,u9,u10,u11,u12,u13,u14,u15,u16,u17,rfl⟩:=list18 l
 refine ⟨_,_,sTr1 ..,some ⟨W.heap.size,0,none⟩,1,rfl,Nat.le_refl _,by decide,fun e=>(by cases e),fun i C hi=> ?_⟩
 have hb:=alloc_b W (.cells #[u0,u1,u2,u3,u4,u5,u6,u7,u8,u9,u10,u11,u12,u13,u14,u15,u16,u17] 33)
 have hm:=mem_new W #[u0,u1,u2,u3,u4,u5,u6,u7,u8,u9,u10,u11,u12,u13,u14,u15,u16,u17] 33
 obtain rfl:i=0:=by have:=(List.getElem?_eq_some_iff.1 hi).1;simp at this;omega
 obtain rfl:CU.agg (fTR m t)=C:=by simpa using hi
 refine ⟨W.heap.size,0,_,rfl, ?_,(CU.agg (fTR m t)).us _ _ _ hc (keepU_below hb)⟩
 rw [show 0+0*18=0 from rfl]
 exact hm
theorem sl_tr2 {m:Nat} {t t':V6} {u v:Value} {W:World} (h:(fTR m t).p u W) (h':(fTR m t').p v W): ∃e cs,sliceCells Tryz.prog 23 2 [(0,u),(1,v)]=some (e,cs)∧(SF.row 18 (trs m [t,t'])).p (.slice (some ⟨W.heap.size,0,none⟩) 2 2) (W.alloc (.cells cs e)):=by
 obtain ⟨cs,rfl,l,hc⟩:=tr_list h
 obtain ⟨u0,u1,u2,u3,u4,u5,u6,u7,u8,u9,u10,u11,u12,u13,u14,u15,u16,u17,rfl⟩:=list18 l
 obtain ⟨cs,rfl,l,hc'⟩:=tr_list h'
 obtain ⟨v0,v1,v2,v3,v4,v5,v6,v7,v8,v9,v10,v11,v12,v13,v14,v15,v16,v17,rfl⟩:=list18 l
 refine ⟨_,_,sTr2 ..,some ⟨W.heap.size,0,none⟩,2,rfl,Nat.le_refl _,by decide,fun e=>(by cases e),fun i C hi=> ?_⟩
 have hb:=alloc_b W (.cells #[u0,u1,u2,u3,u4,u5,u6,u7,u8,u9,u10,u11,u12,u13,u14,u15,u16,u17,v0,v1,v2,v3,v4,v5,v6,v7,v8,v9,v10,v11,v12,v13,v14,v15,v16,v17] 33)
 have hm:=mem_new W #[u0,u1,u2,u3,u4,u5,u6,u7,u8,u9,u10,u11,u12,u13,u14,u15,u16,u17,v0,v1,v2,v3,v4,v5,v6,v7,v8,v9,v10,v11,v12,v13,v14,v15,v16,v17] 33
 have hlt:=(List.getElem?_eq_some_iff.1 hi).1
 simp at hlt
 rcases (by omega:i=0∨i=1) with rfl|rfl
 ·obtain rfl:CU.agg (fTR m t)=C:=by simpa using hi
  refine ⟨W.heap.size,0, [u0,u1,u2,u3,u4,u5,u6,u7,u8,u9,u10,u11,u12,u13,u14,u15,u16,u17],rfl, ?_,(CU.agg (fTR m t)).us _ _ _ hc (keepU_below hb)⟩
  intro j u hj
  have hj':=(List.getElem?_eq_some_iff.1 hj).1
  have:=hm j u (by rw [show #[u0,u1,u2,u3,u4,u5,u6,u7,u8,u9,u10,u11,u12,u13,u14,u15,u16,u17,v0,v1,v2,v3,v4,v5,v6,v7,v8,v9,v10,v11,v12,v13,v14,v15,v16,v17].toList= [u0,u1,u2,u3,u4,u5,u6,u7,u8,u9,u10,u11,u12,u13,u14,u15,u16,u17]++ [v0,v1,v2,v3,v4,v5,v6,v7,v8,v9,v10,v11,v12,v13,v14,v15,v16,v17] from rfl,List.getElem?_append_left hj'];exact hj)
  simpa using this
 ·obtain rfl:CU.agg (fTR m t')=C:=by simpa using hi
  refine ⟨W.heap.size,0, [v0,v1,v2,v3,v4,v5,v6,v7,v8,v9,v10,v11,v12,v13,v14,v15,v16,v17],rfl, ?_,(CU.agg (fTR m t')).us _ _ _ hc' (keepU_below hb)⟩
  intro j u hj
  have hj':=(List.getElem?_eq_some_iff.1 hj).1
  have:=hm (18+j) u (by rw [show #[u0,u1,u2,u3,u4,u5,u6,u7,u8,u9,u10,u11,u12,u13,u14,u15,u16,u17,v0,v1,v2,v3,v4,v5,v6,v7,v8,v9,v10,v11,v12,v13,v14,v15,v16,v17].toList= [u0,u1,u2,u3,u4,u5,u6,u7,u8,u9,u10,u11,u12,u13,u14,u15,u16,u17]++ [v0,v1,v2,v3,v4,v5,v6,v7,v8,v9,v10,v11,v12,v13,v14,v15,v16,v17] from rfl,List.getElem?_append_right (by simp)];simpa using hj)
  simpa using this
def okS (L:List Int):Prop:= ∀i,(gI L i).natAbs<100
theorem okS.ok {L:List Int} (h:okS L):okIs L:=fun i=>by have:=h i;omega
theorem gI_okS {L:List Int} (h:L.all (fun z=>decide (z.natAbs<100))=true):okS L:=fun i=>by
 unfold gI
 rw [List.getD_eq_getElem?_getD]
 cases e:L[i]? with
 |none=>decide
 |some z=>
  have:=List.all_eq_true.1 h z (List.mem_of_getElem? e)
  exact of_decide_eq_true this
theorem qbz {z:Int} (h:z.natAbs<100):QB ((z:Int):Rat) 1:=QB.int (Nat.lt_trans h (by decide)) (by decide)
theorem triK_qb {L:List Int} (h:okS L) (k:Nat): ∀p,p∈triK L k→QB p.1 1∧QB p.2 1:=fun p hp=>by
 obtain ⟨j,_,rfl⟩:=List.mem_map.1 hp
 exact ⟨qbz (h _),qbz (h _)⟩
abbrev LA:List Int:= [0,0,2,0,0,2]
abbrev LB:List Int:= [1,1,2,1,2,2]
abbrev LC:List Int:= [1,0,2,1,1,1]
abbrev TA:V6:=((((1:Int):Rat),((0:Int):Rat)),(((2:Int):Rat),((1:Int):Rat)),(((1:Int):Rat),((1:Int):Rat)))
theorem wk1:polysB (triK LA 3) (triK LB 3)=true:=by kernel_rfl
theorem wk2:polysB (triK LA 3) (triK LC 3)=false:=by kernel_rfl
theorem wk3:whichK (shiftV (triK LA 3) (((0:Int):Rat),((0:Int):Rat))) [TA,TA] 2= [0,1]:=by kernel_rfl
theorem wk4:(!([TA].any (fun t=> !(polysB (shiftV (triK LA 3) (((-5:Int):Rat),((0:Int):Rat))) (tl t)))))=true:=by kernel_rfl
theorem wakes18 {W:World} (hT:Tab W):Calls Tryz.prog 13 #[] W (Ret W (fB true).toSF):=by
 refine run_st [] Tryz.func13 rfl (by kernel_rfl) trivial fun a s=> ?_
 refine wpIn_seq ?_
 refine region_go 1 ((0, .u (UF.eq (.bool false))):: []) hmix s (by kernel_rfl)
  (oc (ok_assign)<|obs_nil) fun a w1 s=> ?_
 refine tail_end rfl ?_
 refine wpIn_seq ?_
 refine region_goN 2 ((4, .s (SF.row 1 (ints [0,0,2,0,0,2])))::(5, .s (SF.newRow w1 31 6 (pns (triK [0,0,2,0,0,2] 3)))):: []) hmix s (by kernel_rfl)
  (oc (ok_slice6 _ _ _ _ _ _ iiz)<|oc (ok_call1 wide_wide en_60 (fun u0 W hb (h0:(SF.row 1 (ints [0,0,2,0,0,2])).p u0 W)=>(tri_p (L:= [0,0,2,0,0,2]) h0 (gI_okS (by decide)).ok (by decide)).mono (Ret.to (newRow_old hb.size))))<|obs_nil) fun a w2 s hr=> ?_
 obtain ⟨v5,e5⟩: ∃v,a.tmps.getD 5 undef=v:=⟨_,rfl⟩
 have hv5:(SF.row 6 (pvs 1 (triK LA 3))).p v5 w2:=e5▸pns_pvs (triK_qb (gI_okS (by decide)) 3) _ _ (newRow_row _ _ (hr (_,_) mz1))
 replace s:=s.learn 5 v5 e5
 have hb0:=s.below
 replace hT:=hT.below hb0
 replace s:=s.reb rfl [(5, .u (UF.eq (v5))),(0, .u (UF.eq (.bool false)))] (fmz ⟨.inl (.head _),fmz ⟨.inl mz1,fnz⟩⟩)
 refine t_set (UF.eq v5) rfl s (by kernel_rfl) iiz fun a w s=> ?_
 refine tail_end rfl ?_
 refine wpIn_seq ?_
 refine region_go 4 ((6, .s ((fPN (((((1):Int):Rat),(((0):Int):Rat)))).toSF))::(7, .s ((fPN (((((2):Int):Rat),(((1):Int):Rat)))).toSF))::(8, .s ((fPN (((((1):Int):Rat),(((1):Int):Rat)))).toSF))::(9, .u (fTR (1) (TA))):: []) hmix s (by kernel_rfl)
  (oc (ok_call2 wide_wide en_25 (fun u0 u1 W hb (h0:u0= .int .i64 (1)) (h1:u1= .int .i64 (0))=>r8of_p h0 h1 (by decide) (by decide)))<|oc (ok_call2 wide_wide en_25 (fun u0 u1 W hb (h0:u0= .int .i64 (2)) (h1:u1= .int .i64 (1))=>r8of_p h0 h1 (by decide) (by decide)))<|oc (ok_call2 wide_wide en_25 (fun u0 u1 W hb (h0:u0= .int .i64 (1)) (h1:u1= .int .i64 (1))=>r8of_p h0 h1 (by decide) (by decide)))<|oc (ok_build3 (fun u v q W (hu:(fPN (((((1):Int):Rat),(((0):Int):Rat)))).p u W) (hv:(fPN (((((2):Int):Rat),(((1):Int):Rat)))).p v W) (hq:(fPN (((((1):Int):Rat),(((1):Int):Rat)))).p q W)=>b_tr (t:=TA) (pn_pv (p:=((((1):Int):Rat),(((0):Int):Rat))) (m:=1) (qbz (by decide)) (qbz (by decide)) hu) (pn_pv (p:=((((2):Int):Rat),(((1):Int):Rat))) (m:=1) (qbz (by decide)) (qbz (by decide)) hv) (pn_pv (p:=((((1):Int):Rat),(((1):Int):Rat))) (m:=1) (qbz (by decide)) (qbz (by decide)) hq)))<|obs_nil) fun a w3 s=> ?_
 refine t_alloc (CU.len 18) (cs:= [.bool false, .slice none 0 0, .slice none 0 0, .bool false, .slice none 0 0, .slice none 0 0, .bool false, .slice none 0 0, .slice none 0 0, .bool false, .slice none 0 0, .slice none 0 0, .bool false, .slice none 0 0, .slice none 0 0, .bool false, .slice none 0 0, .slice none 0 0]) (by kernel_rfl) rfl s (by kernel_rfl) (fun W=>rfl) rfl fun b2 a w s=> ?_
 refine t_store (CU.agg (fTR (1) (TA))) ((fTR (1) (TA)).toSF) rfl s (by kernel_rfl) rfl rfl rfl iiz iiz (tr_store) fun a w s=> ?_
 refine tail_end rfl ?_
 refine wpIn_seq ?_
 refine region_goA2 (fun i=> [].contains i) [] 6 ((10, .s ((UF.eq v5).toSF))::(11, .s ((fTR (1) (TA)).toSF))::(12, .s ((fTR (1) (TA)).toSF))::(13, .s (SF.row 18 (trs 1 [TA,TA])))::(14, .s ((fPN (((((0):Int):Rat),(((0):Int):Rat)))).toSF))::(15, .s (SF.newRow w 3 1 (nums [0,1]))):: []) hmix s (fnz) (by kernel_rfl)
  (oc ok_move<|oc (ok_ldW (f:=fTR (1) (TA)) 18 (by kernel_rfl) (hz:=tr_len _ _))<|oc (ok_ldW (f:=fTR (1) (TA)) 18 (by kernel_rfl) (hz:=tr_len _ _))<|oc (ok_slice2 (fun u v W (hu:(fTR 1 TA).p u W) (hv:(fTR 1 TA).p v W)=>sl_tr2 hu hv))<|oc (ok_call2 wide_wide en_25 (fun u0 u1 W hb (h0:u0= .int .i64 (0)) (h1:u1= .int .i64 (0))=>r8of_p h0 h1 (by decide) (by decide)))<|oc (ok_call3 wide_wide en_15 (fun u0 u1 u2 W hb (h0:u0=v5) (h1:(SF.row 18 (trs 1 [TA,TA])).p u1 W) (h2:(fPN (((((0):Int):Rat),(((0):Int):Rat)))).p u2 W)=>(awhich_p (m:=1) (rs:=triK LA 3) (ts:= [TA,TA]) (p:=((((0):Int):Rat),(((0):Int):Rat))) (by rw [show _=v5 from h0];exact (SF.row 6 (pvs (1) (triK LA 3))).st _ _ _ hv5 (s.up hb)) h1 (pn_pv (p:=((((0):Int):Rat),(((0):Int):Rat))) (m:=1) (qbz (by decide)) (qbz (by decide)) h2) (by decide) (by decide) (by decide) (by decide) (hT.below (s.up hb))).mono (Ret.to (fun v W h=>newRow_old hb.size v W (by rw [show [TA,TA].length=2 from rfl,wk3] at h;exact h)))))<|obs_nil) fun Q' hQ a w4 s hr hd=> ?_
 obtain ⟨v15,e15⟩: ∃v,a.tmps.getD 15 undef=v:=⟨_,rfl⟩
 have hv15:(SF.row 1 (nums [0,1])).p v15 w4:=e15▸newRow_row _ _ (hr (_,_) mz5)
 replace s:=s.learn 15 v15 e15
 have hb1:=s.below
 replace hT:=hT.below hb1
 replace hv5:=(SF.row 6 _).st _ _ _ hv5 hb1
 replace s:StS _ _ _ [⟨2,33,CU.agg (fTR (1) (TA)),b2,true⟩] _ _ _ _:=s.freeze
 replace s:=s.reb rfl [(15, .u (UF.eq (v15))),(9, .u (fTR (1) (TA))),(1, .u (UF.eq v5)),(5, .u (UF.eq (v5))),(0, .u (UF.eq (.bool false)))] (fmz ⟨.inl (.head _),fmz ⟨.inl mz1,fmz ⟨.inl mz2,fmz ⟨.inl mz3,fmz ⟨.inl mz4,fnz⟩⟩⟩⟩⟩)
 refine t_set (UF.eq v15) rfl s (by kernel_rfl) iiz fun a w s=> ?_
 refine tail_end rfl (hQ _ _ ?_)
 refine wpIn_seq ?_
 replace s:=s.drop [0]
 refine region_go 43 ((16, .s ((UF.eq v5).toSF))::(17, .s (SF.row 1 (ints [1,1,2,1,2,2])))::(18, .s (SF.row 6 (pns (triK [1,1,2,1,2,2] 3))))::(19, .s ((UF.eq (.bool true)).toSF))::(20, .s ((UF.eq (.bool true)).toSF))::(21, .s ((UF.eq v5).toSF))::(22, .s (SF.row 1 (ints [1,0,2,1,1,1])))::(23, .s (SF.row 6 (pns (triK [1,0,2,1,1,1] 3))))::(24, .s ((UF.eq (.bool false)).toSF))::(25, .s ((UF.eq (.bool true)).toSF))::(26, .s ((UF.eq (.bool true)).toSF))::(27, .s ((UF.eq (.bool true)).toSF))::(28, .s ((UF.eq v15).toSF))::(29, .s ((UF.eq (.int .i64 ((((nums [0,1]).length:Nat):Int)))).toSF))::(30, .s ((UF.eq (.bool true)).toSF))::(31, .s ((UF.eq (.bool true)).toSF))::(32, .s ((UF.eq (.bool true)).toSF))::(33, .s ((UF.eq v15).toSF))::(34, .s (SF.ptr (CU.is [.int .i64 (((0:Nat)):Int)]).cf))::(35, .s ((UF.eq (.int .i64 ((((0:Nat)):Int)))).toSF))::(36, .s ((UF.eq (.bool true)).toSF))::(37, .s ((UF.eq (.bool true)).toSF))::(38, .s ((UF.eq (.bool true)).toSF))::(39, .s ((UF.eq v15).toSF))::(40, .s (SF.ptr (CU.is [.int .i64 (((1:Nat)):Int)]).cf))::(41, .s ((UF.eq (.int .i64 ((((1:Nat)):Int)))).toSF))::(42, .s ((UF.eq (.bool true)).toSF))::(43, .s ((UF.eq (.bool true)).toSF))::(44, .s ((UF.eq (.bool true)).toSF))::(45, .s ((UF.eq v5).toSF))::(46, .s ((fTR (1) (TA)).toSF))::(47, .s (SF.row 18 (trs 1 [TA])))::(48, .s ((fPN (((((-5):Int):Rat),(((0):Int):Rat)))).toSF))::(49, .s ((UF.eq (.bool true)).toSF))::(50, .s ((UF.eq (.bool true)).toSF))::(51, .s ((UF.eq (.bool true)).toSF))::(52, .s ((UF.eq v5).toSF))::(53, .s ((fPN (((((1):Int):Rat),(((1):Int):Rat)))).toSF))::(54, .s (SF.row 6 (pns (shiftV (triK LA 3) ((((1):Int):Rat),(((1):Int):Rat))))))::(55, .s ((UF.eq (.int .i64 ((((pns (shiftV (triK LA 3) ((((1):Int):Rat),(((1):Int):Rat)))).length:Nat):Int)))).toSF))::(56, .s ((UF.eq (.bool true)).toSF))::(57, .s ((UF.eq (.bool true)).toSF))::(0, .u (UF.eq (.bool true))):: []) hmix s (by kernel_rfl)
  (oc ok_move<|oc (ok_slice6 _ _ _ _ _ _ iiz)<|oc (ok_call1 wide_wide en_60 (fun u0 W hb (h0:(SF.row 1 (ints [1,1,2,1,2,2])).p u0 W)=>(tri_p (L:= [1,1,2,1,2,2]) h0 (gI_okS (by decide)).ok (by decide)).mono (Ret.to newRow_row)))<|oc (ok_call2 wide_wide en_16 (fun u0 u1 W hb (h0:u0=v5) (h1:(SF.row 6 (pns (triK [1,1,2,1,2,2] 3))).p u1 W)=>(apolys_p (m:=1) (ps:=triK LA 3) (qs:=triK [1,1,2,1,2,2] 3) (by rw [show _=v5 from h0];exact (SF.row 6 (pvs (1) (triK LA 3))).st _ _ _ hv5 (s.up hb)) (pns_pvs (triK_qb (gI_okS (by decide)) 3) _ _ h1) (by decide) (by decide) (by decide) (by decide) (hT.below (s.up hb))).mono (Ret.to (fun v W h=>by rw [wk1] at h;exact h))))<|oc ok_move<|oc (ok_guard 20 true (by kernel_rfl) iiz (fun _=>ok_move) (fun e=>absurd rfl e))<|oc (ok_guard 20 true (by kernel_rfl) iiz (fun _=>ok_slice6 _ _ _ _ _ _ iiz) (fun e=>absurd rfl e))<|oc (ok_guard 20 true (by kernel_rfl) iiz (fun _=>ok_call1 wide_wide en_60 (fun u0 W hb (h0:(SF.row 1 (ints [1,0,2,1,1,1])).p u0 W)=>(tri_p (L:= [1,0,2,1,1,1]) h0 (gI_okS (by decide)).ok (by decide)).mono (Ret.to newRow_row))) (fun e=>absurd rfl e))<|oc (ok_guard 20 true (by kernel_rfl) iiz (fun _=>ok_call2 wide_wide en_16 (fun u0 u1 W hb (h0:u0=v5) (h1:(SF.row 6 (pns (triK [1,0,2,1,1,1] 3))).p u1 W)=>(apolys_p (m:=1) (ps:=triK LA 3) (qs:=triK [1,0,2,1,1,1] 3) (by rw [show _=v5 from h0];exact (SF.row 6 (pvs (1) (triK LA 3))).st _ _ _ hv5 (s.up hb)) (pns_pvs (triK_qb (gI_okS (by decide)) 3) _ _ h1) (by decide) (by decide) (by decide) (by decide) (hT.below (s.up hb))).mono (Ret.to (fun v W h=>by rw [wk2] at h;exact h)))) (fun e=>absurd rfl e))<|oc (ok_guard 20 true (by kernel_rfl) iiz (fun _=>ok_not (false) iiz (fun _=>rfl)) (fun e=>absurd rfl e))<|oc (ok_pick true iiz (fun _ _ _ h=>h) (fun e=>by cases e))<|oc ok_move<|oc (ok_guard 27 true (by kernel_rfl) iiz (fun _=>ok_move) (fun e=>absurd rfl e))<|oc (ok_guard 27 true (by kernel_rfl) iiz (fun _=>ok_lenB (z:=1) (Cs:=nums [0,1]) (by kernel_rfl) (fun v W hb h=>(by rw [show _=v15 from h];exact (SF.row 1 (nums [0,1])).st _ _ _ hv15 (s.up hb))) (fun _=>rfl)) (fun e=>absurd rfl e))<|oc (ok_guard 27 true (by kernel_rfl) iiz (fun _=>ok_cmpI .i64 ((((nums [0,1]).length:Nat):Int)) (2) true iiz iiz (by rfl) rfl) (fun e=>absurd rfl e))<|oc (ok_pick true iiz (fun _ _ _ h=>h) (fun e=>by cases e))<|oc ok_move<|oc (ok_guard 32 true (by kernel_rfl) iiz (fun _=>ok_move) (fun e=>absurd rfl e))<|oc (ok_guard 32 true (by kernel_rfl) iiz (fun _=>ok_indexB (z:=1) (Cs:=nums [0,1]) (i:=0) (C:=CU.is [.int .i64 (((0:Nat)):Int)]) (by kernel_rfl) rfl (fun v W hb h=>(by rw [show _=v15 from h];exact (SF.row 1 (nums [0,1])).st _ _ _ hv15 (s.up hb))) iiz) (fun e=>absurd rfl e))<|oc (ok_guard 32 true (by kernel_rfl) iiz (fun _=>ok_load1 (C:=(CU.is [.int .i64 (((0:Nat)):Int)]).cf) (by kernel_rfl) iiz (is_get)) (fun e=>absurd rfl e))<|oc (ok_guard 32 true (by kernel_rfl) iiz (fun _=>ok_cmpI .i64 ((((0:Nat)):Int)) (0) true iiz iiz (by rfl) rfl) (fun e=>absurd rfl e))<|oc (ok_pick true iiz (fun _ _ _ h=>h) (fun e=>by cases e))<|oc ok_move<|oc (ok_guard 38 true (by kernel_rfl) iiz (fun _=>ok_move) (fun e=>absurd rfl e))<|oc (ok_guard 38 true (by kernel_rfl) iiz (fun _=>ok_indexB (z:=1) (Cs:=nums [0,1]) (i:=1) (C:=CU.is [.int .i64 (((1:Nat)):Int)]) (by kernel_rfl) rfl (fun v W hb h=>(by rw [show _=v15 from h];exact (SF.row 1 (nums [0,1])).st _ _ _ hv15 (s.up hb))) iiz) (fun e=>absurd rfl e))<|oc (ok_guard 38 true (by kernel_rfl) iiz (fun _=>ok_load1 (C:=(CU.is [.int .i64 (((1:Nat)):Int)]).cf) (by kernel_rfl) iiz (is_get)) (fun e=>absurd rfl e))<|oc (ok_guard 38 true (by kernel_rfl) iiz (fun _=>ok_cmpI .i64 ((((1:Nat)):Int)) (1) true iiz iiz (by rfl) rfl) (fun e=>absurd rfl e))<|oc (ok_pick true iiz (fun _ _ _ h=>h) (fun e=>by cases e))<|oc ok_move<|oc (ok_guard 44 true (by kernel_rfl) iiz (fun _=>ok_move) (fun e=>absurd rfl e))<|oc (ok_guard 44 true (by kernel_rfl) iiz (fun _=>ok_ldW (f:=fTR (1) (TA)) 18 (by kernel_rfl) (hz:=tr_len _ _)) (fun e=>absurd rfl e))<|oc (ok_guard 44 true (by kernel_rfl) iiz (fun _=>ok_slice1 (fun u W (hu:(fTR 1 TA).p u W)=>sl_tr1 hu)) (fun e=>absurd rfl e))<|oc (ok_guard 44 true (by kernel_rfl) iiz (fun _=>ok_call2 wide_wide en_25 (fun u0 u1 W hb (h0:u0= .int .i64 (-5)) (h1:u1= .int .i64 (0))=>r8of_p h0 h1 (by decide) (by decide))) (fun e=>absurd rfl e))<|oc (ok_guard 44 true (by kernel_rfl) iiz (fun _=>ok_call3 wide_wide en_14 (fun u0 u1 u2 W hb (h0:u0=v5) (h1:(SF.row 18 (trs 1 [TA])).p u1 W) (h2:(fPN (((((-5):Int):Rat),(((0):Int):Rat)))).p u2 W)=>(afree_p (m:=1) (rs:=triK LA 3) (ts:= [TA]) (p:=((((-5):Int):Rat),(((0):Int):Rat))) (by rw [show _=v5 from h0];exact (SF.row 6 (pvs (1) (triK LA 3))).st _ _ _ hv5 (s.up hb)) h1 (pn_pv (p:=((((-5):Int):Rat),(((0):Int):Rat))) (m:=1) (qbz (by decide)) (qbz (by decide)) h2) (by decide) (by decide) (by decide) (by decide) (hT.below (s.up hb))).mono (Ret.to (fun v W h=>by rw [wk4] at h;exact h)))) (fun e=>absurd rfl e))<|oc (ok_pick true iiz (fun _ _ _ h=>h) (fun e=>by cases e))<|oc ok_move<|oc (ok_guard 51 true (by kernel_rfl) iiz (fun _=>ok_move) (fun e=>absurd rfl e))<|oc (ok_guard 51 true (by kernel_rfl) iiz (fun _=>ok_call2 wide_wide en_25 (fun u0 u1 W hb (h0:u0= .int .i64 (1)) (h1:u1= .int .i64 (1))=>r8of_p h0 h1 (by decide) (by decide))) (fun e=>absurd rfl e))<|oc (ok_guard 51 true (by kernel_rfl) iiz (fun _=>ok_call2 wide_wide en_17 (fun u0 u1 W hb (h0:u0=v5) (h1:(fPN (((((1):Int):Rat),(((1):Int):Rat)))).p u1 W)=>(ashift_p (m:=1) (ps:=triK LA 3) (t:=((((1):Int):Rat),(((1):Int):Rat))) (by rw [show _=v5 from h0];exact (SF.row 6 (pvs (1) (triK LA 3))).st _ _ _ hv5 (s.up hb)) (pn_pv (p:=((((1):Int):Rat),(((1):Int):Rat))) (m:=1) (qbz (by decide)) (qbz (by decide)) h1) (by decide) (by decide) (by decide) (hT.below (s.up hb))).mono (Ret.to newRow_row))) (fun e=>absurd rfl e))<|oc (ok_guard 51 true (by kernel_rfl) iiz (fun _=>ok_lenR (z:=6) (Cs:=pns (shiftV (triK LA 3) ((((1):Int):Rat),(((1):Int):Rat)))) (by kernel_rfl) iiz (fun _=>rfl)) (fun e=>absurd rfl e))<|oc (ok_guard 51 true (by kernel_rfl) iiz (fun _=>ok_cmpI .i64 ((((pns (shiftV (triK LA 3) ((((1):Int):Rat),(((1):Int):Rat)))).length:Nat):Int)) (3) true iiz iiz (by rfl) rfl) (fun e=>absurd rfl e))<|oc (ok_pick true iiz (fun _ _ _ h=>h) (fun e=>by cases e))<|oc (ok_assign)<|obs_nil) fun a w5 s=> ?_
 refine tail_end rfl ?_
 refine wpIn_ret ?_
 exact StS.resB s (hb0.trans (hb1.mono hb0.size)) rfl iiz
end Go.Proofs.Wd

namespace Go.Proofs.Wd
open Go.RowKit Lb
section
variable {f g f' g' f'' g'':UF}
end
end Go.Proofs.Wd

namespace Go.Proofs.Wd
open Go.RowKit Lb
section
variable {F:Fence} {m:Nat} {P:Program} {w0:World} {ops:Array Oper} {G:Nat→SF} {d:Tmp} {ty:TypeId} {pos:String} {aft:Array Edge}
end
theorem px_whole {x:PX} (h:x.big=false) (cs:List Value) (W:World) (hc:(PX.cu x).p cs W):0+6≤cs.length∧(fPV 2 x.p).p (.agg ((cs.drop 0).take 6).toArray) W:=by
 obtain ⟨h1,h2⟩:=pt_whole cs W hc
 exact ⟨h1,px_pv h h2⟩
end Go.Proofs.Wd

namespace Go.Proofs.Wd
open Go.RowKit Lb
section
variable {F:Fence} {m:Nat} {P:Program} {w0:World} {ops:Array Oper} {G:Nat→SF} {d:Tmp} {ty:TypeId} {pos:String} {aft:Array Edge}
theorem ok_mulZ {t:TypeId} {x y:Operand} {t':TypeId} (k:IntKind) (u v r:Int) (hx: ∀q W,(fct G x).p q W→q= .int k u) (hy: ∀q W,(fct G y).p q W→q= .int k v) (hr:k.wrap (u*v)=r) (hd: ∀W,(G d).p (.int k r) W:=by exact fun _=>rfl):GdOK F m P w0 ops G ⟨some d, .binOp .mul t x y t',ty,pos,aft,none⟩:=
 ok_bin (.int k u) (.int k v) (.int k r) hx hy (fun W=>by simp [eqGuard]) (fun W=>by subst hr;simp [binOp,Op.intArith]) hd
end
end Go.Proofs.Wd

namespace Go.Proofs.Wd
set_option maxRecDepth 100000
set_option maxHeartbeats 1000000
open Go.RowKit Lb
theorem crs_qb {m M:Nat} {a b p:V2} (ha:QB a.1 m∧QB a.2 m) (hb:QB b.1 m∧QB b.2 m) (hp:QB p.1 M∧QB p.2 M):QB (crs a b p) ((2*m+1+(M+m+1))+(2*m+1+(M+m+1))+1):=
 ((((hb.1.sub ha.1).mul (hp.2.sub ha.2)).sub ((hb.2.sub ha.2).mul (hp.1.sub ha.1))).mono (by omega))
theorem sub2_qb {m M:Nat} {p q:V2} (hp:QB p.1 M∧QB p.2 M) (hq:QB q.1 m∧QB q.2 m):QB (p.1 - q.1) (M+m+1)∧QB (p.2 - q.2) (M+m+1):=⟨hp.1.sub hq.1,hp.2.sub hq.2⟩
theorem sgn_neg {z:Rat}:z.num.sign<0↔z<0:=by
 have n0:z<0↔z.num<0:=by rw [Rat.lt_iff];simp
 rw [n0]
 rcases Int.lt_trichotomy z.num 0 with h|h|h
 ·rw [Int.sign_eq_neg_one_of_neg h];exact ⟨fun _=>h,fun _=>by decide⟩
 ·rw [h];decide
 ·rw [Int.sign_eq_one_of_pos h];exact ⟨fun h'=>absurd h' (by decide),fun h'=>by omega⟩
theorem sgn_pos {z:Rat}:0<z.num.sign↔0<z:=by
 have p0:0<z↔0<z.num:=by rw [Rat.lt_iff];simp
 rw [p0]
 rcases Int.lt_trichotomy z.num 0 with h|h|h
 ·rw [Int.sign_eq_neg_one_of_neg h];exact ⟨fun h'=>absurd h' (by decide),fun h'=>by omega⟩
 ·rw [h];decide
 ·rw [Int.sign_eq_one_of_pos h];exact ⟨fun _=>h,fun _=>by decide⟩
theorem sgn_mulq {x y:Rat}:x.num.sign*y.num.sign<0↔(0<x∧y<0)∨(x<0∧0<y):=by
 have hx:=@sgn_neg x;have hx':=@sgn_pos x;have hy:=@sgn_neg y;have hy':=@sgn_pos y
 rw [←hx, ←hx', ←hy, ←hy']
 rcases Int.sign_trichotomy x.num with h|h|h<;>rcases Int.sign_trichotomy y.num with h'|h'|h'<;>rw [h,h']<;>decide
def withB (ps:List V2) (p:V2):Bool:=(List.range ps.length).all (fun i=>decide (0<edg ps i p))&&decide (((ps.length:Nat):Int)≥3)
theorem withB_no {ps:List V2} {p:V2} {i:Nat} (hi:i<ps.length) (h:(edg ps i p).num.sign≤0):withB ps p=false:=by
 unfold withB
 rw [Bool.and_eq_false_iff]
 left
 rw [List.all_eq_false]
 refine ⟨i,List.mem_range.2 hi, ?_⟩
 have:=@sgn_pos (edg ps i p)
 rw [decide_eq_true_eq, ←this]
 omega
theorem withB_end {ps:List V2} {p:V2} (h: ∀i,i<ps.length→ ¬(edg ps i p).num.sign≤0):withB ps p=decide (((ps.length:Nat):Int)≥3):=by
 unfold withB
 rw [List.all_eq_true.2 (fun i hi=>decide_eq_true (sgn_pos.1 (by have:=h i (List.mem_range.1 hi);omega))),Bool.true_and]
theorem withB_t {ps:List V2} {p:V2}:withB ps p=true↔Inside ps p∧3≤ps.length:=by
 unfold withB Inside
 rw [Bool.and_eq_true,List.all_eq_true,decide_eq_true_eq]
 refine and_congr ⟨fun h i hi=>of_decide_eq_true (h i (List.mem_range.2 hi)),fun h i hi=>decide_eq_true (h i (List.mem_range.1 hi))⟩ (by omega)
def pieceK (h:Aff) (ps:List V2) (i:Nat):List V2:=(List.range i).flatMap fun i=>piece h (at_ ps i) (at_ ps ((i+1) % ps.length))
theorem pieceK_succ (h:Aff) (ps:List V2) (i:Nat):pieceK h ps (i+1)=pieceK h ps i++piece h (at_ ps i) (at_ ps ((i+1) % ps.length)):=by
 unfold pieceK
 rw [List.range_succ,List.flatMap_append]
 simp
theorem pieceK_mem {h:Aff} {ps:List V2} {i:Nat} (hi:i<ps.length) {x:V2} (hx:x∈piece h (at_ ps i) (at_ ps ((i+1) % ps.length))):x∈cutL h ps:=List.mem_flatMap.2 ⟨i,List.mem_range.2 hi,hx⟩
theorem pieceK_len (h:Aff) (ps:List V2): ∀i,(pieceK h ps i).length≤2*i
 |0=>Nat.le_refl _
 | i+1=>by
  have:=pieceK_len h ps i
  rw [pieceK_succ,List.length_append]
  have:(piece h (at_ ps i) (at_ ps ((i+1) % ps.length))).length≤2:=by
   unfold piece
   split<;>split<;>simp
  omega
theorem piece_tt {h:Aff} {p q:V2} (h1:0≤h.v p) (h2:crosses h p q):piece h p q= [p]++ [cpt h p q]:=by unfold piece;rw [if_pos h1,if_pos h2]
theorem piece_tf {h:Aff} {p q:V2} (h1:0≤h.v p) (h2: ¬crosses h p q):piece h p q= [p]:=by unfold piece;rw [if_pos h1,if_neg h2,List.append_nil]
theorem piece_ft {h:Aff} {p q:V2} (h1: ¬0≤h.v p) (h2:crosses h p q):piece h p q= [cpt h p q]:=by unfold piece;rw [if_neg h1,if_pos h2,List.nil_append]
theorem piece_ff {h:Aff} {p q:V2} (h1: ¬0≤h.v p) (h2: ¬crosses h p q):piece h p q= []:=by unfold piece;rw [if_neg h1,if_neg h2];rfl
theorem pvs_snoc (m:Nat) (ps:List V2) (x:V2):pvs m ps++ [CU.agg (fPV m x)]=pvs m (ps++ [x]):=by simp [pvs]
def flatB (ps:List V2):Bool:=(List.range ps.length).all fun i=>decide (i<2)||decide (crs (at_ ps 0) (at_ ps (i - 1)) (at_ ps i)=0)
theorem flat_no {ps:List V2} {i:Nat} (hi:i<ps.length) (h2:2≤i) (h:((crs (at_ ps 0) (at_ ps (i - 1)) (at_ ps i)).num.sign !=0)=true):flatB ps=false:=by
 unfold flatB
 rw [List.all_eq_false]
 refine ⟨i,List.mem_range.2 hi, ?_⟩
 rw [decide_eq_false (by omega: ¬i<2),Bool.false_or,decide_eq_true_eq]
 intro e
 rw [e] at h
 exact absurd h (by decide)
theorem flat_yes {ps:List V2} (h: ∀i,2≤i→i<ps.length→((crs (at_ ps 0) (at_ ps (i - 1)) (at_ ps i)).num.sign !=0)=false):flatB ps=true:=by
 unfold flatB
 rw [List.all_eq_true]
 intro i hi
 by_cases h2:i<2
 ·rw [decide_eq_true h2];rfl
 ·have h3:=h i (by omega) (List.mem_range.1 hi)
  have h4:(crs (at_ ps 0) (at_ ps (i - 1)) (at_ ps i)).num.sign=0:=by simpa using h3
  rw [decide_eq_true (p:=crs _ _ _=0) (Rat.num_eq_zero.1 (Int.sign_eq_zero_iff_zero.1 h4)),Bool.or_true]
theorem r8crossM_p {m M:Nat} {W:World} {u v:Value} {p q:V2} (h1:(fPV M p).p u W) (h2:(fPV M q).p v W) (hp:QB p.1 m∧QB p.2 m) (hq:QB q.1 M∧QB q.2 M) (hmM:m≤M) (hm0:0<m) (hM:m+M≤490):Calls Tryz.prog 67 #[u,v] W (Ret W (fQN (p.1*q.2 - p.2*q.1)).toSF):=by
 refine run_st [(fPV M p).toSF,(fPV M q).toSF] Tryz.func67 rfl (by kernel_rfl) ⟨h1,h2,trivial⟩ fun a s=> ?_
 refine wpIn_seq ?_
 refine region_go 0 [] hmix s (by kernel_rfl)
  obs_nil fun a w1 s=> ?_
 refine t_box (CU.agg (fPV (M) (p))) rfl s (by kernel_rfl) (fun v W h=>pt_box h) fun b2 a w s=> ?_
 refine t_box (CU.agg (fPV (M) (q))) rfl s (by kernel_rfl) (fun v W h=>pt_box h) fun b3 a w s=> ?_
 refine t_alloc (CU.len 3) (cs:= [.bool false, .slice none 0 0, .slice none 0 0]) (by kernel_rfl) rfl s (by kernel_rfl) (fun W=>rfl) rfl fun b4 a w s=> ?_
 refine tail_end rfl ?_
 refine wpIn_seq ?_
 refine region_goP [] 13 ((5, .s (SF.ptr ((CU.agg (fPV (M) (p))).cf.at 0)))::(6, .s ((fRV (M) ((p).1)).toSF))::(7, .s (SF.ptr ((CU.agg (fPV (M) (q))).cf.at 3)))::(8, .s ((fRV (M) ((q).2)).toSF))::(9, .s (SF.row 3 (rvs (M) [(p).1,(q).2])))::(10, .s ((fQN (((p).1*(q).2))).toSF))::(11, .s (SF.ptr ((CU.agg (fPV (M) (p))).cf.at 3)))::(12, .s ((fRV (M) ((p).2)).toSF))::(13, .s (SF.ptr ((CU.agg (fPV (M) (q))).cf.at 0)))::(14, .s ((fRV (M) ((q).1)).toSF))::(15, .s (SF.row 3 (rvs (M) [(p).2,(q).1])))::(16, .s ((fQN (((p).2*(q).1))).toSF))::(17, .u (fQN ((((p).1*(q).2) - ((p).2*(q).1))))):: []) hmix s (by kernel_rfl)
  (oc (ok_fld (C:=(CU.agg (fPV (M) (p))).cf) 0 (by kernel_rfl))<|oc (ok_ldA (C:=(CU.agg (fPV (M) (p))).cf) (k:=0) 3 (by kernel_rfl) (h:=pt_x))<|oc (ok_fld (C:=(CU.agg (fPV (M) (q))).cf) 3 (by kernel_rfl))<|oc (ok_ldA (C:=(CU.agg (fPV (M) (q))).cf) (k:=3) 3 (by kernel_rfl) (h:=pt_y))<|oc (ok_slice2 (fun u v W (hu:RVp (M) ((p).1) u W) (hv:RVp (M) ((q).2) v W)=>sl_rv2 hu hv))<|oc (ok_call1 wide_wide en_75 (fun u0 W hb (h0:(SF.row 3 (rvs (M) [(p).1,(q).2])).p u0 W)=>r7mul2_q h0 (hp.1.mono hmM) hq.2 (by omega)))<|oc (ok_fld (C:=(CU.agg (fPV (M) (p))).cf) 3 (by kernel_rfl))<|oc (ok_ldA (C:=(CU.agg (fPV (M) (p))).cf) (k:=3) 3 (by kernel_rfl) (h:=pt_y))<|oc (ok_fld (C:=(CU.agg (fPV (M) (q))).cf) 0 (by kernel_rfl))<|oc (ok_ldA (C:=(CU.agg (fPV (M) (q))).cf) (k:=0) 3 (by kernel_rfl) (h:=pt_x))<|oc (ok_slice2 (fun u v W (hu:RVp (M) ((p).2) u W) (hv:RVp (M) ((q).1) v W)=>sl_rv2 hu hv))<|oc (ok_call1 wide_wide en_75 (fun u0 W hb (h0:(SF.row 3 (rvs (M) [(p).2,(q).1])).p u0 W)=>r7mul2_q h0 (hp.2.mono hmM) hq.1 (by omega)))<|oc (ok_call2 wide_wide en_103 (fun u0 u1 W hb (h0:QNp (((p).1*(q).2)) u0 W) (h1:QNp (((p).2*(q).1)) u1 W)=>r7sub_q (QNp.rv h0 (hp.1.mul hq.2)) (QNp.rv h1 (hp.2.mul hq.1)) (by omega) (by omega)))<|obs_nil) fun Q' hQ a w2 s=> ?_
 refine t_store (CU.agg (fQN ((((p).1*(q).2) - ((p).2*(q).1))))) ((fQN ((((p).1*(q).2) - ((p).2*(q).1)))).toSF) rfl s (by kernel_rfl) rfl rfl rfl iiz iiz (qn_store) fun a w s=> ?_
 refine tail_end rfl (hQ _ _ ?_)
 refine wpIn_ret ?_
 exact StS.resC s (CU.agg (fQN (p.1*q.2 - p.2*q.1))) rfl (by kernel_rfl) rfl rfl (qn_len _) (fun cs W h=>h)
theorem height_p {m M:Nat} {W:World} {u v x:Value} {ca cb p:V2} (h1:(fPV m ca).p u W) (h2:(fPV m cb).p v W) (h3:(fPV M p).p x W) (hmM:m≤M) (hm0:0<m) (hM:3*m+M+2≤490):Calls Tryz.prog 69 #[u,v,x] W (Ret W (fQN (crs ca cb p)).toSF):=by
 have hqa:=pv_qb hm0 h1
 have hqb:=pv_qb hm0 h2
 have hqp:=pv_qb (by omega) h3
 refine run_st [(fPV m ca).toSF,(fPV m cb).toSF,(fPV M p).toSF] Tryz.func69 rfl (by kernel_rfl) ⟨h1,h2,h3,trivial⟩ fun a s=> ?_
 refine wpIn_seq ?_
 refine region_go 0 [] hmix s (by kernel_rfl)
  obs_nil fun a w1 s=> ?_
 refine t_box (CU.agg (fPV (m) (ca))) rfl s (by kernel_rfl) (fun v W h=>pt_box h) fun b3 a w s=> ?_
 refine t_box (CU.agg (fPV (m) (cb))) rfl s (by kernel_rfl) (fun v W h=>pt_box h) fun b4 a w s=> ?_
 refine t_box (CU.agg (fPV (M) (p))) rfl s (by kernel_rfl) (fun v W h=>pt_box h) fun b5 a w s=> ?_
 refine t_alloc (CU.len 3) (cs:= [.bool false, .slice none 0 0, .slice none 0 0]) (by kernel_rfl) rfl s (by kernel_rfl) (fun W=>rfl) rfl fun b6 a w s=> ?_
 refine tail_end rfl ?_
 refine wpIn_seq ?_
 refine region_goP [] 7 ((7, .s ((fPV (m) (cb)).toSF))::(8, .s ((fPV (m) (ca)).toSF))::(9, .s ((fPN (((cb).1 - (ca).1,(cb).2 - (ca).2))).toSF))::(10, .s ((fPV (M) (p)).toSF))::(11, .s ((fPV (m) (ca)).toSF))::(12, .s ((fPN (((p).1 - (ca).1,(p).2 - (ca).2))).toSF))::(13, .u (fQN ((crs ca cb p)))):: []) hmix s (by kernel_rfl)
  (oc (ok_ldW (f:=fPV (m) (cb)) 6 (by kernel_rfl) (hz:=pt_len _ _))<|oc (ok_ldW (f:=fPV (m) (ca)) 6 (by kernel_rfl) (hz:=pt_len _ _))<|oc (ok_call2 wide_wide en_58 (fun u0 u1 W hb (h0:(fPV (m) (cb)).p u0 W) (h1:(fPV (m) (ca)).p u1 W)=>r8sub_p (m:=m) (p:=cb) (q:=ca) h0 h1 (by omega) hm0))<|oc (ok_ldW (f:=fPV (M) (p)) 6 (by kernel_rfl) (hz:=pt_len _ _))<|oc (ok_ldW (f:=fPV (m) (ca)) 6 (by kernel_rfl) (hz:=pt_len _ _))<|oc (ok_call2 wide_wide en_58 (fun u0 u1 W hb (h0:(fPV (M) (p)).p u0 W) (h1:(fPV (m) (ca)).p u1 W)=>r8sub_p (m:=M) (p:=p) (q:=ca) h0 (pv_mono (by omega) h1) (by omega) (by omega)))<|oc (ok_call2 wide_wide en_67 (fun u0 u1 W hb (h0:(fPN (((cb).1 - (ca).1,(cb).2 - (ca).2))).p u0 W) (h1:(fPN (((p).1 - (ca).1,(p).2 - (ca).2))).p u1 W)=>r8crossM_p (m:=2*m+1) (M:=M+m+1) (p:=((cb).1 - (ca).1,(cb).2 - (ca).2)) (q:=((p).1 - (ca).1,(p).2 - (ca).2)) (pn_pv (p:=((cb).1 - (ca).1,(cb).2 - (ca).2)) (m:=(M+m+1)) ((subV_qb hqb hqa).1.mono (by first|omega|decide)) ((subV_qb hqb hqa).2.mono (by first|omega|decide)) h0) (pn_pv (p:=((p).1 - (ca).1,(p).2 - (ca).2)) (m:=(M+m+1)) ((sub2_qb hqp hqa).1.mono (by first|omega|decide)) ((sub2_qb hqp hqa).2.mono (by first|omega|decide)) h1) (subV_qb hqb hqa) (sub2_qb hqp hqa) (by omega) (by omega) (by omega)))<|obs_nil) fun Q' hQ a w2 s=> ?_
 refine t_store (CU.agg (fQN ((crs ca cb p)))) ((fQN ((crs ca cb p))).toSF) rfl s (by kernel_rfl) rfl rfl rfl iiz iiz (qn_store) fun a w s=> ?_
 refine tail_end rfl (hQ _ _ ?_)
 refine wpIn_ret ?_
 exact StS.resC s (CU.agg (fQN (crs ca cb p))) rfl (by kernel_rfl) rfl rfl (qn_len _) (fun cs W h=>h)
theorem r18within_p {m M:Nat} {W:World} {l v:Value} {p:V2} {ps:List V2} (hl:(SF.row 6 (pvs m ps)).p l W) (h1:(fPV M p).p v W) (hmM:m≤M) (hm0:0<m) (hM:3*m+M+2≤490) (hn:ps.length≤1000000):Calls Tryz.prog 22 #[l,v] W (Ret W (fB (withB ps p)).toSF):=by
 have hq:=pvs_qb hm0 hl
 have hqp:=pv_qb (by omega) h1
 refine run_st [(UF.eq l).toSF,(fPV M p).toSF] Tryz.func22 rfl (by kernel_rfl) ⟨rfl,h1,trivial⟩ fun a s=> ?_
 replace s:=s.renew [(0, .u (UF.eq l)),(1, .u (fPV (M) (p)))] (fmz ⟨.inr ⟨_,rfl, .head _⟩,fmz ⟨.inr ⟨_,rfl,mz1⟩,fnz⟩⟩)
 refine wpIn_seq ?_
 refine region_go 0 [] hmix s (by kernel_rfl)
  obs_nil fun a w1 s=> ?_
 refine t_box (CU.agg (fPV (M) (p))) rfl s (by kernel_rfl) (fun v W h=>pt_box h) fun b3 a w s=> ?_
 refine t_set (UF.eq (.bool false)) rfl s (by kernel_rfl) iiz fun a w s=> ?_
 refine tail_end rfl ?_
 refine wpIn_seq ?_
 refine wpIn_seq ?_
 refine region_go 1 ((5, .u (UF.eq (.int .i64 (0)))):: []) hmix s (by kernel_rfl)
  (oc (ok_assign)<|obs_nil) fun a w2 s=> ?_
 refine tail_end rfl ?_
 refine wpIn_block ?_
 refine st_whileK (fun i=>i≤ps.length∧ ∀j,j<i→ ¬(edg ps j p).num.sign≤0) (fun i=> [(0, .u (UF.eq l)),(5, .u (UF.eq (.int .i64 (((i:Nat):Int)))))]) (fun i=>ps.length - i) ((0:Nat)) (⟨Nat.zero_le _,fun j hj=>absurd hj (Nat.not_lt_zero _)⟩) (s.keepK _ (fmz ⟨mz2,fmz ⟨.head _,fnz⟩⟩)) fun i a w hx s=> ?_
 refine wpIn_seq ?_
 refine wpIn_seq ?_
 refine region_go 4 ((6, .s ((UF.eq (.int .i64 (((i:Nat):Int)))).toSF))::(7, .s ((UF.eq l).toSF))::(8, .s ((UF.eq (.int .i64 ((((pvs (m) (ps)).length:Nat):Int)))).toSF))::(9, .u (UF.eq (.bool (decide (((i:Nat):Int)<(((pvs (m) (ps)).length:Nat):Int)))))):: []) hmix s (by kernel_rfl)
  (oc ok_move<|oc ok_move<|oc (ok_lenB (z:=6) (Cs:=pvs (m) (ps)) (by kernel_rfl) (fun v W hb h=>(by rw [show _=l from h];exact (SF.row 6 (pvs (m) (ps))).st _ _ _ hl (s.up hb))) (fun _=>rfl))<|oc (ok_cmpI .i64 (((i:Nat):Int)) ((((pvs (m) (ps)).length:Nat):Int)) (decide (((i:Nat):Int)<(((pvs (m) (ps)).length:Nat):Int))) iiz iiz rfl rfl)<|obs_nil) fun a w3 s=> ?_
 refine tail_end rfl ?_
 refine StS.cond s (decide (((i:Nat):Int)<(((pvs (m) (ps)).length:Nat):Int))) iiz (fun e=> ?_) (fun e=> ?_)
 ·have hi:i<ps.length:=by have:=of_decide_eq_true e;simp at this;omega
  have hj:((i+1) % ps.length)<ps.length:=Nat.mod_lt _ (by omega)
  have hlz:(pvs m ps).length=ps.length:=by simp
  refine wpIn_skip ?_
  refine wpIn_seq ?_
  refine wpIn_block ?_
  refine wpIn_seq ?_
  refine region_go 22 ((12, .s ((UF.eq l).toSF))::(13, .s ((UF.eq (.int .i64 (((i:Nat):Int)))).toSF))::(14, .s ((UF.eq (.int .i64 (((i+1:Nat):Int)))).toSF))::(15, .s ((UF.eq l).toSF))::(16, .s ((UF.eq (.int .i64 ((((pvs (m) (ps)).length:Nat):Int)))).toSF))::(17, .s ((UF.eq (.int .i64 (((((i+1) % ps.length):Nat):Int)))).toSF))::(18, .s (SF.ptr (CU.agg (fPV (m) ((at_ ps ((i+1) % ps.length))))).cf))::(19, .s ((fPV (m) ((at_ ps ((i+1) % ps.length)))).toSF))::(20, .s ((UF.eq l).toSF))::(21, .s ((UF.eq (.int .i64 (((i:Nat):Int)))).toSF))::(22, .s (SF.ptr (CU.agg (fPV (m) ((at_ ps i)))).cf))::(23, .s ((fPV (m) ((at_ ps i))).toSF))::(24, .s ((fPN (((at_ ps ((i+1) % ps.length)).1 - (at_ ps i).1,(at_ ps ((i+1) % ps.length)).2 - (at_ ps i).2))).toSF))::(25, .s ((fPV (M) (p)).toSF))::(26, .s ((UF.eq l).toSF))::(27, .s ((UF.eq (.int .i64 (((i:Nat):Int)))).toSF))::(28, .s (SF.ptr (CU.agg (fPV (m) ((at_ ps i)))).cf))::(29, .s ((fPV (m) ((at_ ps i))).toSF))::(30, .s ((fPN (((p).1 - (at_ ps i).1,(p).2 - (at_ ps i).2))).toSF))::(31, .s ((fQN ((edg ps i p))).toSF))::(32, .s ((UF.eq (.int .i64 ((edg ps i p).num.sign))).toSF))::(33, .u (UF.eq (.bool (decide ((edg ps i p).num.sign≤0))))):: []) hmix s (by kernel_rfl)
   (oc ok_move<|oc ok_move<|oc (ok_addI .i64 (((i:Nat):Int)) (1) (((i+1:Nat):Int)) iiz iiz (wrap64 _ _ (by omega) (by omega)))<|oc ok_move<|oc (ok_lenB (z:=6) (Cs:=pvs (m) (ps)) (by kernel_rfl) (fun v W hb h=>(by rw [show _=l from h];exact (SF.row 6 (pvs (m) (ps))).st _ _ _ hl (s.up hb))) (fun _=>rfl))<|oc (ok_remI .i64 (((i+1:Nat):Int)) ((((pvs (m) (ps)).length:Nat):Int)) ((((i+1) % ps.length):Nat):Int) iiz iiz (by omega) (by rw [hlz];exact rem_nat _ _))<|oc (ok_indexB (z:=6) (Cs:=pvs (m) (ps)) (i:=((i+1) % ps.length)) (C:=CU.agg (fPV (m) ((at_ ps ((i+1) % ps.length))))) (by kernel_rfl) (pvs_get hj) (fun v W hb h=>(by rw [show _=l from h];exact (SF.row 6 (pvs (m) (ps))).st _ _ _ hl (s.up hb))) iiz)<|oc (ok_ldW (f:=fPV (m) ((at_ ps ((i+1) % ps.length)))) 6 (by kernel_rfl) (hz:=pt_len _ _))<|oc ok_move<|oc ok_move<|oc (ok_indexB (z:=6) (Cs:=pvs (m) (ps)) (i:=i) (C:=CU.agg (fPV (m) ((at_ ps i)))) (by kernel_rfl) (pvs_get hi) (fun v W hb h=>(by rw [show _=l from h];exact (SF.row 6 (pvs (m) (ps))).st _ _ _ hl (s.up hb))) iiz)<|oc (ok_ldW (f:=fPV (m) ((at_ ps i))) 6 (by kernel_rfl) (hz:=pt_len _ _))<|oc (ok_call2 wide_wide en_58 (fun u0 u1 W hb (h0:(fPV (m) ((at_ ps ((i+1) % ps.length)))).p u0 W) (h1:(fPV (m) ((at_ ps i))).p u1 W)=>r8sub_p (m:=m) (p:=at_ ps ((i+1) % ps.length)) (q:=at_ ps i) h0 h1 (by omega) hm0))<|oc (ok_ldW (f:=fPV (M) (p)) 6 (by kernel_rfl) (hz:=pt_len _ _))<|oc ok_move<|oc ok_move<|oc (ok_indexB (z:=6) (Cs:=pvs (m) (ps)) (i:=i) (C:=CU.agg (fPV (m) ((at_ ps i)))) (by kernel_rfl) (pvs_get hi) (fun v W hb h=>(by rw [show _=l from h];exact (SF.row 6 (pvs (m) (ps))).st _ _ _ hl (s.up hb))) iiz)<|oc (ok_ldW (f:=fPV (m) ((at_ ps i))) 6 (by kernel_rfl) (hz:=pt_len _ _))<|oc (ok_call2 wide_wide en_58 (fun u0 u1 W hb (h0:(fPV (M) (p)).p u0 W) (h1:(fPV (m) ((at_ ps i))).p u1 W)=>r8sub_p (m:=M) (p:=p) (q:=at_ ps i) h0 (pv_mono (by omega) h1) (by omega) (by omega)))<|oc (ok_call2 wide_wide en_67 (fun u0 u1 W hb (h0:(fPN (((at_ ps ((i+1) % ps.length)).1 - (at_ ps i).1,(at_ ps ((i+1) % ps.length)).2 - (at_ ps i).2))).p u0 W) (h1:(fPN (((p).1 - (at_ ps i).1,(p).2 - (at_ ps i).2))).p u1 W)=>r8crossM_p (m:=2*m+1) (M:=M+m+1) (p:=((at_ ps ((i+1) % ps.length)).1 - (at_ ps i).1,(at_ ps ((i+1) % ps.length)).2 - (at_ ps i).2)) (q:=((p).1 - (at_ ps i).1,(p).2 - (at_ ps i).2)) (pn_pv (p:=((at_ ps ((i+1) % ps.length)).1 - (at_ ps i).1,(at_ ps ((i+1) % ps.length)).2 - (at_ ps i).2)) (m:=(M+m+1)) ((subV_qb (hq _ (at_mem hj)) (hq _ (at_mem hi))).1.mono (by first|omega|decide)) ((subV_qb (hq _ (at_mem hj)) (hq _ (at_mem hi))).2.mono (by first|omega|decide)) h0) (pn_pv (p:=((p).1 - (at_ ps i).1,(p).2 - (at_ ps i).2)) (m:=(M+m+1)) ((sub2_qb hqp (hq _ (at_mem hi))).1.mono (by first|omega|decide)) ((sub2_qb hqp (hq _ (at_mem hi))).2.mono (by first|omega|decide)) h1) (subV_qb (hq _ (at_mem hj)) (hq _ (at_mem hi))) (sub2_qb hqp (hq _ (at_mem hi))) (by omega) (by omega) (by omega)))<|oc (ok_call1 wide_wide en_42 (fun u0 W hb (h0:QNp ((edg ps i p)) u0 W)=>r7sign_q (m:=((2*m+1+(M+m+1))+(2*m+1+(M+m+1))+1)) (QNp.rv h0 (crs_qb (hq _ (at_mem hi)) (hq _ (at_mem hj)) hqp)) (by omega)))<|oc (ok_cmpI .i64 ((edg ps i p).num.sign) (0) (decide ((edg ps i p).num.sign≤0)) iiz iiz rfl rfl)<|obs_nil) fun a w4 s=> ?_
  refine tail_end rfl ?_
  refine StS.cond s (decide ((edg ps i p).num.sign≤0)) iiz (fun e=> ?_) (fun e=> ?_)
  ·refine wpIn_seq ?_
   refine region_go 1 ((4, .u (UF.eq (.bool false))):: []) hmix s (by kernel_rfl)
    (oc (ok_assign)<|obs_nil) fun a w5 s=> ?_
   refine tail_end rfl ?_
   refine wpIn_ret ?_
   exact StS.res1 s (t:=4) rfl (fun v W h=>by rw [withB_no hi (of_decide_eq_true e)];exact h)
  ·refine wpIn_skip ?_
   refine region_goS 2 ((10, .s ((UF.eq (.int .i64 (((i:Nat):Int)))).toSF))::(11, .u (UF.eq (.int .i64 (((i+1:Nat):Int))))):: []) s (by kernel_rfl)
    (oc ok_move<|oc (ok_addI .i64 (((i:Nat):Int)) (1) (((i+1:Nat):Int)) iiz iiz (wrap64 _ _ (by omega) (by omega)))<|obs_nil) fun a w6 s=> ?_
   replace s:=s.drop [5]
   refine t_set (UF.eq (.int .i64 (((i+1:Nat):Int)))) rfl s (by kernel_rfl) iiz fun a w s=> ?_
   refine tail_end rfl ?_
   exact ⟨i+1,⟨hi,fun j hj=>by rcases Nat.lt_or_eq_of_le (Nat.le_of_lt_succ hj) with h|h;exact hx.2 j h;rw [h];exact of_decide_eq_false e⟩,(by show ps.length - (i+1)<ps.length - i;omega),s.keepK _ (fmz ⟨mz4,fmz ⟨.head _,fnz⟩⟩)⟩
 ·have hi:i=ps.length:=by have h7:=of_decide_eq_false e;have h8:=hx.1;simp at h7;omega
  refine wpIn_exit ?_
  refine wpIn_seq ?_
  refine region_go 4 ((34, .s ((UF.eq l).toSF))::(35, .s ((UF.eq (.int .i64 ((((pvs (m) (ps)).length:Nat):Int)))).toSF))::(36, .s ((UF.eq (.bool (decide ((((pvs (m) (ps)).length:Nat):Int)≥3)))).toSF))::(4, .u (UF.eq (.bool (decide ((((pvs (m) (ps)).length:Nat):Int)≥3))))):: []) hmix s (by kernel_rfl)
   (oc ok_move<|oc (ok_lenB (z:=6) (Cs:=pvs (m) (ps)) (by kernel_rfl) (fun v W hb h=>(by rw [show _=l from h];exact (SF.row 6 (pvs (m) (ps))).st _ _ _ hl (s.up hb))) (fun _=>rfl))<|oc (ok_cmpI .i64 ((((pvs (m) (ps)).length:Nat):Int)) (3) (decide ((((pvs (m) (ps)).length:Nat):Int)≥3)) iiz iiz rfl rfl)<|oc (ok_assign)<|obs_nil) fun a w7 s=> ?_
  refine tail_end rfl ?_
  refine wpIn_ret ?_
  exact StS.res1 s (t:=4) rfl (fun v W h=>by rw [withB_end (fun j hj=>hx.2 j (by omega))];rw [List.length_map] at h;exact h)
theorem flat_p {m:Nat} {W:World} {l:Value} {ps:List V2} (hl:(SF.row 6 (pvs m ps)).p l W) (hm:m≤100) (hm0:0<m) (hn:ps.length≤1000000):Calls Tryz.prog 24 #[l] W (Ret W (fB (flatB ps)).toSF):=by
 have hq:=pvs_qb hm0 hl
 refine run_st [(UF.eq l).toSF] Tryz.func24 rfl (by kernel_rfl) ⟨rfl,trivial⟩ fun a s=> ?_
 replace s:=s.renew [(0, .u (UF.eq l))] (fmz ⟨.inr ⟨_,rfl, .head _⟩,fnz⟩)
 refine wpIn_seq ?_
 refine region_go 1 ((2, .u (UF.eq (.bool false))):: []) hmix s (by kernel_rfl)
  (oc (ok_assign)<|obs_nil) fun a w1 s=> ?_
 refine tail_end rfl ?_
 refine wpIn_seq ?_
 refine wpIn_seq ?_
 refine region_go 1 ((3, .u (UF.eq (.int .i64 (2)))):: []) hmix s (by kernel_rfl)
  (oc (ok_assign)<|obs_nil) fun a w2 s=> ?_
 refine tail_end rfl ?_
 refine wpIn_block ?_
 refine st_whileK (fun i=>2≤i∧ ∀j,2≤j→j<i→j<ps.length→((crs (at_ ps 0) (at_ ps (j - 1)) (at_ ps j)).num.sign !=0)=false) (fun i=> [(0, .u (UF.eq l)),(3, .u (UF.eq (.int .i64 (((i:Nat):Int)))))]) (fun i=>ps.length - i) ((2:Nat)) (⟨Nat.le_refl _,fun j h2 hj=>absurd hj (by omega)⟩) (s.keepK _ (fmz ⟨mz2,fmz ⟨.head _,fnz⟩⟩)) fun i a w hx s=> ?_
 refine wpIn_seq ?_
 refine wpIn_seq ?_
 refine region_go 4 ((4, .s ((UF.eq (.int .i64 (((i:Nat):Int)))).toSF))::(5, .s ((UF.eq l).toSF))::(6, .s ((UF.eq (.int .i64 ((((pvs (m) (ps)).length:Nat):Int)))).toSF))::(7, .u (UF.eq (.bool (decide (((i:Nat):Int)<(((pvs (m) (ps)).length:Nat):Int)))))):: []) hmix s (by kernel_rfl)
  (oc ok_move<|oc ok_move<|oc (ok_lenB (z:=6) (Cs:=pvs (m) (ps)) (by kernel_rfl) (fun v W hb h=>(by rw [show _=l from h];exact (SF.row 6 (pvs (m) (ps))).st _ _ _ hl (s.up hb))) (fun _=>rfl))<|oc (ok_cmpI .i64 (((i:Nat):Int)) ((((pvs (m) (ps)).length:Nat):Int)) (decide (((i:Nat):Int)<(((pvs (m) (ps)).length:Nat):Int))) iiz iiz rfl rfl)<|obs_nil) fun a w3 s=> ?_
 refine tail_end rfl ?_
 refine StS.cond s (decide (((i:Nat):Int)<(((pvs (m) (ps)).length:Nat):Int))) iiz (fun e=> ?_) (fun e=> ?_)
 ·have hi:i<ps.length:=by have:=of_decide_eq_true e;simp at this;omega
  have hx1:=hx.1
  have hi1:i - 1<ps.length:=by omega
  have h00:0<ps.length:=by omega
  refine wpIn_skip ?_
  refine wpIn_seq ?_
  refine wpIn_block ?_
  refine wpIn_seq ?_
  refine region_go 15 ((10, .s ((UF.eq l).toSF))::(11, .s (SF.ptr (CU.agg (fPV (m) ((at_ ps 0)))).cf))::(12, .s ((fPV (m) ((at_ ps 0))).toSF))::(13, .s ((UF.eq l).toSF))::(14, .s ((UF.eq (.int .i64 (((i:Nat):Int)))).toSF))::(15, .s ((UF.eq (.int .i64 (((i - 1:Nat):Int)))).toSF))::(16, .s (SF.ptr (CU.agg (fPV (m) ((at_ ps (i - 1))))).cf))::(17, .s ((fPV (m) ((at_ ps (i - 1)))).toSF))::(18, .s ((UF.eq l).toSF))::(19, .s ((UF.eq (.int .i64 (((i:Nat):Int)))).toSF))::(20, .s (SF.ptr (CU.agg (fPV (m) ((at_ ps i)))).cf))::(21, .s ((fPV (m) ((at_ ps i))).toSF))::(22, .s ((fQN ((crs (at_ ps 0) (at_ ps (i - 1)) (at_ ps i)))).toSF))::(23, .s ((UF.eq (.int .i64 ((crs (at_ ps 0) (at_ ps (i - 1)) (at_ ps i)).num.sign))).toSF))::(24, .u (UF.eq (.bool ((crs (at_ ps 0) (at_ ps (i - 1)) (at_ ps i)).num.sign !=0)))):: []) hmix s (by kernel_rfl)
   (oc ok_move<|oc (ok_indexB (z:=6) (Cs:=pvs (m) (ps)) (i:=0) (C:=CU.agg (fPV (m) ((at_ ps 0)))) (by kernel_rfl) (pvs_get h00) (fun v W hb h=>(by rw [show _=l from h];exact (SF.row 6 (pvs (m) (ps))).st _ _ _ hl (s.up hb))) iiz)<|oc (ok_ldW (f:=fPV (m) ((at_ ps 0))) 6 (by kernel_rfl) (hz:=pt_len _ _))<|oc ok_move<|oc ok_move<|oc (ok_subI .i64 (((i:Nat):Int)) (1) ((i - 1:Nat):Int) iiz iiz (by rw [IntKind.wrap_i64];omega))<|oc (ok_indexB (z:=6) (Cs:=pvs (m) (ps)) (i:=(i - 1)) (C:=CU.agg (fPV (m) ((at_ ps (i - 1))))) (by kernel_rfl) (pvs_get hi1) (fun v W hb h=>(by rw [show _=l from h];exact (SF.row 6 (pvs (m) (ps))).st _ _ _ hl (s.up hb))) iiz)<|oc (ok_ldW (f:=fPV (m) ((at_ ps (i - 1)))) 6 (by kernel_rfl) (hz:=pt_len _ _))<|oc ok_move<|oc ok_move<|oc (ok_indexB (z:=6) (Cs:=pvs (m) (ps)) (i:=i) (C:=CU.agg (fPV (m) ((at_ ps i)))) (by kernel_rfl) (pvs_get hi) (fun v W hb h=>(by rw [show _=l from h];exact (SF.row 6 (pvs (m) (ps))).st _ _ _ hl (s.up hb))) iiz)<|oc (ok_ldW (f:=fPV (m) ((at_ ps i))) 6 (by kernel_rfl) (hz:=pt_len _ _))<|oc (ok_call3 wide_wide en_69 (fun u0 u1 u2 W hb (h0:(fPV (m) ((at_ ps 0))).p u0 W) (h1:(fPV (m) ((at_ ps (i - 1)))).p u1 W) (h2:(fPV (m) ((at_ ps i))).p u2 W)=>height_p (m:=m) (M:=m) h0 h1 h2 (Nat.le_refl _) hm0 (by omega)))<|oc (ok_call1 wide_wide en_42 (fun u0 W hb (h0:QNp ((crs (at_ ps 0) (at_ ps (i - 1)) (at_ ps i))) u0 W)=>r7sign_q (m:=(2*m+1+(m+m+1))+(2*m+1+(m+m+1))+1) (QNp.rv h0 (crs_qb (hq _ (at_mem h00)) (hq _ (at_mem hi1)) (hq _ (at_mem hi)))) (by omega)))<|oc (ok_cmpI .i64 ((crs (at_ ps 0) (at_ ps (i - 1)) (at_ ps i)).num.sign) (0) ((crs (at_ ps 0) (at_ ps (i - 1)) (at_ ps i)).num.sign !=0) iiz iiz rfl rfl)<|obs_nil) fun a w4 s=> ?_
  refine tail_end rfl ?_
  refine StS.cond s ((crs (at_ ps 0) (at_ ps (i - 1)) (at_ ps i)).num.sign !=0) iiz (fun e=> ?_) (fun e=> ?_)
  ·refine wpIn_seq ?_
   refine region_go 1 ((2, .u (UF.eq (.bool false))):: []) hmix s (by kernel_rfl)
    (oc (ok_assign)<|obs_nil) fun a w5 s=> ?_
   refine tail_end rfl ?_
   refine wpIn_ret ?_
   exact StS.res1 s (t:=2) rfl (fun v W h=>by rw [flat_no hi hx1 e];exact h)
  ·refine wpIn_skip ?_
   refine region_goS 2 ((8, .s ((UF.eq (.int .i64 (((i:Nat):Int)))).toSF))::(9, .u (UF.eq (.int .i64 (((i+1:Nat):Int))))):: []) s (by kernel_rfl)
    (oc ok_move<|oc (ok_addI .i64 (((i:Nat):Int)) (1) (((i+1:Nat):Int)) iiz iiz (wrap64 _ _ (by omega) (by omega)))<|obs_nil) fun a w6 s=> ?_
   replace s:=s.drop [3]
   refine t_set (UF.eq (.int .i64 (((i+1:Nat):Int)))) rfl s (by kernel_rfl) iiz fun a w s=> ?_
   refine tail_end rfl ?_
   exact ⟨i+1,⟨by omega,fun j h2 hj hl'=>by rcases Nat.lt_or_eq_of_le (Nat.le_of_lt_succ hj) with h|h;exact hx.2 j h2 h hl';rw [h];exact e⟩,(by show ps.length - (i+1)<ps.length - i;omega),s.keepK _ (fmz ⟨mz4,fmz ⟨.head _,fnz⟩⟩)⟩
 ·have hi:ps.length≤i:=by have h7:=of_decide_eq_false e;simp at h7;omega
  refine wpIn_exit ?_
  refine wpIn_seq ?_
  refine region_go 1 ((2, .u (UF.eq (.bool true))):: []) hmix s (by kernel_rfl)
   (oc (ok_assign)<|obs_nil) fun a w7 s=> ?_
  refine tail_end rfl ?_
  refine wpIn_ret ?_
  exact StS.res1 s (t:=2) rfl (fun v W h=>by rw [flat_yes (fun j h2 hj=>hx.2 j h2 (by omega) hj)];exact h)
theorem QB.inv {q:Rat} {m:Nat} (h:QB q m):QB q⁻¹ m:=by
 by_cases e:q=0
 ·subst e
  rw [Rat.inv_zero];exact h
 ·have hn:q.num≠0:=fun h0=>e (Rat.num_eq_zero.1 h0)
  refine QB.ratio h.pos (X:=(q.den:Int)) (D:=q.num) ?_ hn (bd_nat h.2) h.1
  have h1:(q.num:Rat)=q*((q.den:Nat):Rat):=num_eq q
  rw [h1, ←Rat.mul_assoc,Rat.inv_mul_cancel q e,Rat.one_mul]
  rfl
theorem QB.div {p q:Rat} {m n:Nat} (h:QB p m) (h':QB q n):QB (p / q) (m+n):=by
 rw [Rat.div_def]
 exact h.mul h'.inv
theorem cpt_eq (a b p q:V2):seg p q (crs a b p / (crs a b p - crs a b q))=cpt (lin a b) p q:=by unfold cpt;rw [lin_v,lin_v]
theorem ge_t {a b p:V2} (h:decide ((crs a b p).num.sign≥0)=true):0≤(lin a b).v p:=by
 rw [lin_v]
 have h1:=of_decide_eq_true h
 exact Rat.not_lt.1 fun h2=>by have:=sgn_neg.2 h2;omega
theorem ge_f {a b p:V2} (h:decide ((crs a b p).num.sign≥0)=false): ¬0≤(lin a b).v p:=by
 rw [lin_v]
 have h1:=of_decide_eq_false h
 exact Rat.not_le.2 (sgn_neg.1 (by omega))
theorem cr_t {a b p q:V2} (h:decide ((crs a b p).num.sign*(crs a b q).num.sign<0)=true):crosses (lin a b) p q:=by
 unfold crosses
 rw [lin_v,lin_v]
 exact sgn_mulq.1 (of_decide_eq_true h)
theorem cr_f {a b p q:V2} (h:decide ((crs a b p).num.sign*(crs a b q).num.sign<0)=false): ¬crosses (lin a b) p q:=by
 unfold crosses
 rw [lin_v,lin_v]
 exact fun h1=>of_decide_eq_false h (sgn_mulq.2 h1)
theorem row_tt (m:Nat) (P:List V2) (x y:V2):pvs m P++ [CU.agg (fPV m x)]++ [CU.agg (fPV m y)]=pvs m (P++([x]++ [y])):=by simp [pvs]
theorem sign_small (z:Int): -1≤z.sign∧z.sign≤1:=by
 rcases Int.sign_trichotomy z with h|h|h<;>omega
theorem mul_small {x y:Int} (hx: -1≤x∧x≤1) (hy: -1≤y∧y≤1): -1≤x*y∧x*y≤1:=by
 rcases (by omega:x= -1∨x=0∨x=1) with rfl|rfl|rfl<;>omega
theorem cut_p {W:World} {l u v:Value} {a_ b_:V2} {ps:List V2} (hl:(SF.row 6 (pvs 19 ps)).p l W) (h1:(fPV 2 a_).p u W) (h2:(fPV 2 b_).p v W) (hPB: ∀x,x∈cutL (lin a_ b_) ps→QB x.1 19∧QB x.2 19) (hps:ps.length≤1000000):Calls Tryz.prog 68 #[l,u,v] W (Ret W (SF.newRow W 31 6 (pvs 19 (cutL (lin a_ b_) ps)))):=by
  have hq:=pvs_qb (by decide) hl
  have hqa:=pv_qb (by decide) h1
  have hqb:=pv_qb (by decide) h2
  refine run_st [(UF.eq l).toSF,(fPV 2 a_).toSF,(fPV 2 b_).toSF] Tryz.func68 rfl (by kernel_rfl) ⟨rfl,h1,h2,trivial⟩ fun a s=> ?_
  replace s:=s.renew [(0, .u (UF.eq l)),(1, .u (fPV (2) (a_))),(2, .u (fPV (2) (b_)))] (fmz ⟨.inr ⟨_,rfl, .head _⟩,fmz ⟨.inr ⟨_,rfl,mz1⟩,fmz ⟨.inr ⟨_,rfl,mz2⟩,fnz⟩⟩⟩)
  refine wpIn_seq ?_
  refine region_go 0 [] hmix s (by kernel_rfl)
    obs_nil fun a w1 s=> ?_
  refine t_box (CU.agg (fPV (2) (a_))) rfl s (by kernel_rfl) (fun v W h=>pt_box h) fun b4 a w s=> ?_
  refine t_box (CU.agg (fPV (2) (b_))) rfl s (by kernel_rfl) (fun v W h=>pt_box h) fun b5 a w s=> ?_
  refine t_set (UF.eq (.slice none 0 0)) rfl s (by kernel_rfl) iiz fun a w s=> ?_
  refine tail_end rfl ?_
  refine wpIn_seq ?_
  refine region_go 1 ((7, .u (UF.eq (.slice none 0 0))):: []) hmix s (by kernel_rfl)
    (oc (ok_assign)<|obs_nil) fun a w2 s=> ?_
  refine tail_end rfl ?_
  refine wpIn_seq ?_
  refine wpIn_seq ?_
  refine region_go 1 ((8, .u (UF.eq (.int .i64 (0)))):: []) hmix s (by kernel_rfl)
    (oc (ok_assign)<|obs_nil) fun a w3 s=> ?_
  refine tail_end rfl ?_
  refine wpIn_block ?_
  replace s:StS _ _ _ [⟨5,31,CU.agg (fPV (2) (b_)),b5,true⟩,⟨4,31,CU.agg (fPV (2) (a_)),b4,true⟩] _ _ _ _:=s.freeze
  obtain ⟨base,hbase⟩: ∃b,b=w3.heap.size:=⟨_,rfl⟩
  have hB5:b5<base:=by rw [hbase];exact s.old _ (.head _)
  have hB4:b4<base:=by rw [hbase];exact s.old _ mz1
  have hb0:W.heap.size≤base:=by rw [hbase];exact s.gr.size
  have hsz0:base≤w3.heap.size:=by rw [hbase];exact Nat.le_refl _
  refine st_rows (fun (p:Nat×Value) w=>p.1≤ps.length∧base≤w.heap.size∧RowN w base 31 6 p.2 (pvs 19 (pieceK (lin a_ b_) ps p.1))) (fun p=> [(0, .u (UF.eq l)),(7, .u (UF.eq (p.2))),(8, .u (UF.eq (.int .i64 (((p.1:Nat):Int)))))]) (fun p=>ps.length - p.1) ((0, .slice none 0 0)) (⟨Nat.zero_le _,hsz0,RowN.nil _ _ _ _⟩) (s.keepK _ (fmz ⟨mz3,fmz ⟨mz1,fmz ⟨.head _,fnz⟩⟩⟩)) fun p a w hI s=> ?_
  have s0:=s
  have hlw:=(SF.row 6 (pvs 19 ps)).st _ _ _ hl s0.below
  replace s:=s.reb rfl [(0, .u (UF.eq l)),(7, .u (UF.eq (p.2))),(8, .u (UF.eq (.int .i64 (((p.1:Nat):Int)))))] (fmz ⟨.inl (.head _),fmz ⟨.inl mz1,fmz ⟨.inl mz2,fnz⟩⟩⟩)
  refine wpIn_seq ?_
  refine wpIn_seq ?_
  refine region_go 4 ((15, .s ((UF.eq (.int .i64 (((p.1:Nat):Int)))).toSF))::(16, .s ((UF.eq l).toSF))::(17, .s ((UF.eq (.int .i64 ((((pvs (19) (ps)).length:Nat):Int)))).toSF))::(18, .u (UF.eq (.bool (decide (((p.1:Nat):Int)<(((pvs (19) (ps)).length:Nat):Int)))))):: []) hmix s (by kernel_rfl)
    (oc ok_move<|oc ok_move<|oc (ok_lenB (z:=6) (Cs:=pvs (19) (ps)) (by kernel_rfl) (fun v W hb h=>(by rw [show _=l from h];exact (SF.row 6 (pvs (19) (ps))).st _ _ _ hlw (s.up hb))) (fun _=>rfl))<|oc (ok_cmpI .i64 (((p.1:Nat):Int)) ((((pvs (19) (ps)).length:Nat):Int)) (decide (((p.1:Nat):Int)<(((pvs (19) (ps)).length:Nat):Int))) iiz iiz rfl rfl)<|obs_nil) fun a w4 s=> ?_
  refine tail_end rfl ?_
  refine StS.cond s (decide (((p.1:Nat):Int)<(((pvs (19) (ps)).length:Nat):Int))) iiz (fun e=> ?_) (fun e=> ?_)
  · have hk:p.1<ps.length:=by have:=of_decide_eq_true e;simp at this;omega
    have hj:((p.1+1) % ps.length)<ps.length:=Nat.mod_lt _ (by omega)
    have hlz:(pvs 19 ps).length=ps.length:=by simp
    have hqi:=hq _ (at_mem hk)
    have hqj:=hq _ (at_mem hj)
    obtain ⟨mM,hM⟩: ∃q,q=(crs a_ b_ (at_ ps p.1)):=⟨_,rfl⟩
    obtain ⟨nN,hN⟩: ∃q,q=(crs a_ b_ (at_ ps ((p.1+1) % ps.length))):=⟨_,rfl⟩
    have hqm:QB mM 55:=by rw [hM];exact (crs_qb (m:=2) (M:=19) hqa hqb hqi).mono (by decide)
    have hqn:QB nN 55:=by rw [hN];exact (crs_qb (m:=2) (M:=19) hqa hqb hqj).mono (by decide)
    have hqd:QB (mM - nN) 111:=(hqm.sub hqn).mono (by decide)
    have hqt:QB (mM / (mM - nN)) 166:=(hqm.div hqd).mono (by decide)
    have hcp:crosses (lin a_ b_) (at_ ps p.1) (at_ ps ((p.1+1) % ps.length))→QB (cpt (lin a_ b_) (at_ ps p.1) (at_ ps ((p.1+1) % ps.length))).1 19∧QB (cpt (lin a_ b_) (at_ ps p.1) (at_ ps ((p.1+1) % ps.length))).2 19:=fun hc=>hPB _ (pieceK_mem hk (by unfold piece;rw [if_pos hc];exact List.mem_append_right _ (List.mem_cons_self ..)))
    refine wpIn_skip ?_
    refine wpIn_seq ?_
    refine wpIn_block ?_
    refine wpIn_seq ?_
    have so:=s.old;have sg:=s.gr
    refine region_goA3 (fun i=> [4,5,6,7,8,9,10,11].contains i) [⟨12,9,31, [.bool false, .slice none 0 0, .slice none 0 0, .bool false, .slice none 0 0, .slice none 0 0],SF.newBox w4 31 (CU.len 6)⟩,⟨13,10,31, [.bool false, .slice none 0 0, .slice none 0 0, .bool false, .slice none 0 0, .slice none 0 0],SF.newBox w4 31 (CU.len 6)⟩] 14 ((21, .s ((UF.eq l).toSF))::(22, .s ((UF.eq (.int .i64 (((p.1:Nat):Int)))).toSF))::(23, .s (SF.ptr (CU.agg (fPV (19) ((at_ ps p.1)))).cf))::(24, .u (fPV (19) ((at_ ps p.1))))::(25, .s ((UF.eq l).toSF))::(26, .s ((UF.eq (.int .i64 (((p.1:Nat):Int)))).toSF))::(27, .s ((UF.eq (.int .i64 (((p.1+1:Nat):Int)))).toSF))::(28, .s ((UF.eq l).toSF))::(29, .s ((UF.eq (.int .i64 ((((pvs (19) (ps)).length:Nat):Int)))).toSF))::(30, .s ((UF.eq (.int .i64 (((((p.1+1) % ps.length):Nat):Int)))).toSF))::(31, .s ((fOp w4 (CU.agg (fPV (19) ((at_ ps ((p.1+1) % ps.length)))))).toSF))::(32, .u (fPV (19) ((at_ ps ((p.1+1) % ps.length)))))::(9, .s (SF.newBox w4 31 (CU.len 6)))::(10, .s (SF.newBox w4 31 (CU.len 6))):: []) hmix s (fmz ⟨⟨by show 12<14;decide,mz12,⟨_,_,_,rfl⟩,by kernel_rfl,own_new (fun _=>rfl) rfl⟩,fmz ⟨⟨by show 13<14;decide,mz13,⟨_,_,_,rfl⟩,by kernel_rfl,own_new (fun _=>rfl) rfl⟩,fnz⟩⟩) (by kernel_rfl)
      (oc ok_move<|oc ok_move<|oc (ok_indexB (z:=6) (Cs:=pvs (19) (ps)) (i:=p.1) (C:=CU.agg (fPV (19) ((at_ ps p.1)))) (by kernel_rfl) (pvs_get hk) (fun v W hb h=>(by rw [show _=l from h];exact (SF.row 6 (pvs (19) (ps))).st _ _ _ hlw (s.up hb))) iiz)<|oc (ok_ldW (f:=fPV (19) ((at_ ps p.1))) 6 (by kernel_rfl) (hz:=pt_len _ _))<|oc ok_move<|oc ok_move<|oc (ok_addI .i64 (((p.1:Nat):Int)) (1) (((p.1+1:Nat):Int)) iiz iiz (wrap64 _ _ (by omega) (by omega)))<|oc ok_move<|oc (ok_lenB (z:=6) (Cs:=pvs (19) (ps)) (by kernel_rfl) (fun v W hb h=>(by rw [show _=l from h];exact (SF.row 6 (pvs (19) (ps))).st _ _ _ hlw (s.up hb))) (fun _=>rfl))<|oc (ok_remI .i64 (((p.1+1:Nat):Int)) ((((pvs (19) (ps)).length:Nat):Int)) ((((p.1+1) % ps.length):Nat):Int) iiz iiz (by omega) (by rw [hlz];exact rem_nat _ _))<|oc (ok_indexO (z:=6) (Cs:=pvs (19) (ps)) (i:=((p.1+1) % ps.length)) (C:=CU.agg (fPV (19) ((at_ ps ((p.1+1) % ps.length))))) (by kernel_rfl) (pvs_get hj) ((SF.row 6 (pvs (19) (ps))).st _ _ _ hlw s.below) iiz iiz)<|oc (ok_loadO (fPV (19) ((at_ ps ((p.1+1) % ps.length)))) 6 (by kernel_rfl) iiz (pt_whole))<|oc (ok_alloc (cs:= [.bool false, .slice none 0 0, .slice none 0 0, .bool false, .slice none 0 0, .slice none 0 0]) (by kernel_rfl) (own_new (fun _=>rfl) rfl))<|oc (ok_alloc (cs:= [.bool false, .slice none 0 0, .slice none 0 0, .bool false, .slice none 0 0, .slice none 0 0]) (by kernel_rfl) (own_new (fun _=>rfl) rfl))<|obs_nil)
      (fds_of (fobs_cons (fun e=>absurd e (by decide))<|
      fobs_cons (fun e=>absurd e (by decide))<|
      fobs_cons (fun e=>absurd e (by decide))<|
      fobs_cons (fun e=>absurd e (by decide))<|
      fobs_cons (fun _=>fd_move)<|
      fobs_cons (fun _=>fd_move)<|
      fobs_cons (fun _=>fd_addI .i64 (((p.1:Nat):Int)) (1) iiz iiz)<|
      fobs_cons (fun _=>fd_move)<|
      fobs_cons (fun _=>fd_len (z:=6) (Cs:=pvs (19) (ps)) (by kernel_rfl) (fun v W hb h=>(by rw [show _=l from h];exact (SF.row 6 (pvs (19) (ps))).st _ _ _ hlw (s.up hb))))<|
      fobs_cons (fun _=>fd_remI .i64 (((p.1+1:Nat):Int)) ((((pvs (19) (ps)).length:Nat):Int)) iiz iiz (by omega))<|
      fobs_cons (fun _=>fd_indexO (z:=6) (Cs:=pvs (19) (ps)) (i:=((p.1+1) % ps.length)) (C:=CU.agg (fPV (19) ((at_ ps ((p.1+1) % ps.length))))) (by kernel_rfl) (pvs_get hj) ((SF.row 6 (pvs (19) (ps))).st _ _ _ hlw s.below) iiz iiz)<|
      fobs_cons (fun _=>fd_loadO (fPV (19) ((at_ ps ((p.1+1) % ps.length)))) 6 (by kernel_rfl) iiz (pt_whole))<|
      fobs_cons (fun e=>absurd e (by decide))<|
      fobs_cons (fun e=>absurd e (by decide))<|fobs_nil)) fun Q' hQ a w5 hg s hr hd=> ?_
    obtain ⟨b9,hB9,e9,s⟩:=s.adoptA false 9 (hr (_,_) mz12) sg (fun y hy=> .inl (so y hy))
    obtain ⟨b10,hB10,e10,s⟩:=s.adoptA false 10 (hr (_,_) mz13) sg (fun y hy=>by rcases List.mem_cons.1 hy with rfl|hy;exact .inr (.inr fun b hb=>hd _ _ (.head _) mz1 (by show 12≠13;decide) _ _ e9 hb);exact .inl (so y hy))
    refine tC_store (CU.agg (fPV (19) ((at_ ps p.1)))) ((fPV (19) ((at_ ps p.1))).toSF) rfl s hg (by kernel_rfl) rfl rfl hB9 rfl iiz iiz (pt_store) fun a w s hg=> ?_
    refine tC_store (CU.agg (fPV (19) ((at_ ps ((p.1+1) % ps.length))))) ((fPV (19) ((at_ ps ((p.1+1) % ps.length)))).toSF) rfl s hg (by kernel_rfl) rfl rfl hB10 rfl iiz iiz (pt_store) fun a w s hg=> ?_
    refine tailC_end rfl (hQ _ _ ?_)
    refine wpIn_seq ?_
    have so:=s.old;have sg:=s.gr
    refine region_goA2 (fun i=> [].contains i) [⟨8,11,29, [.bool false, .slice none 0 0, .slice none 0 0],SF.newBox w 29 (CU.len 3)⟩,⟨9,12,29, [.bool false, .slice none 0 0, .slice none 0 0],SF.newBox w 29 (CU.len 3)⟩] 10 ((33, .s ((fPV (2) (a_)).toSF))::(34, .s ((fPV (2) (b_)).toSF))::(35, .s ((fPV (19) ((at_ ps p.1))).toSF))::(36, .u (fQN (mM)))::(37, .s ((fPV (2) (a_)).toSF))::(38, .s ((fPV (2) (b_)).toSF))::(39, .s ((fPV (19) ((at_ ps ((p.1+1) % ps.length)))).toSF))::(40, .u (fQN (nN)))::(11, .s (SF.newBox w 29 (CU.len 3)))::(12, .s (SF.newBox w 29 (CU.len 3))):: []) hmix s (fmz ⟨⟨by show 8<10;decide,mz8,⟨_,_,_,rfl⟩,by kernel_rfl,own_new (fun _=>rfl) rfl⟩,fmz ⟨⟨by show 9<10;decide,mz9,⟨_,_,_,rfl⟩,by kernel_rfl,own_new (fun _=>rfl) rfl⟩,fnz⟩⟩) (by kernel_rfl)
      (oc (ok_ldW (f:=fPV (2) (a_)) 6 (by kernel_rfl) (hz:=pt_len _ _))<|oc (ok_ldW (f:=fPV (2) (b_)) 6 (by kernel_rfl) (hz:=pt_len _ _))<|oc (ok_ldW (f:=fPV (19) ((at_ ps p.1))) 6 (by kernel_rfl) (hz:=pt_len _ _))<|oc (ok_call3 wide_wide en_69 (fun u0 u1 u2 W hb (h0:(fPV (2) (a_)).p u0 W) (h1:(fPV (2) (b_)).p u1 W) (h2:(fPV (19) ((at_ ps p.1))).p u2 W)=>(height_p (m:=2) (M:=19) h0 h1 h2 (by decide) (by decide) (by decide)).mono (Ret.to (fun v W h=>by rw [←hM] at h;exact h))))<|oc (ok_ldW (f:=fPV (2) (a_)) 6 (by kernel_rfl) (hz:=pt_len _ _))<|oc (ok_ldW (f:=fPV (2) (b_)) 6 (by kernel_rfl) (hz:=pt_len _ _))<|oc (ok_ldW (f:=fPV (19) ((at_ ps ((p.1+1) % ps.length)))) 6 (by kernel_rfl) (hz:=pt_len _ _))<|oc (ok_call3 wide_wide en_69 (fun u0 u1 u2 W hb (h0:(fPV (2) (a_)).p u0 W) (h1:(fPV (2) (b_)).p u1 W) (h2:(fPV (19) ((at_ ps ((p.1+1) % ps.length)))).p u2 W)=>(height_p (m:=2) (M:=19) h0 h1 h2 (by decide) (by decide) (by decide)).mono (Ret.to (fun v W h=>by rw [←hN] at h;exact h))))<|oc (ok_alloc (cs:= [.bool false, .slice none 0 0, .slice none 0 0]) (by kernel_rfl) (own_new (fun _=>rfl) rfl))<|oc (ok_alloc (cs:= [.bool false, .slice none 0 0, .slice none 0 0]) (by kernel_rfl) (own_new (fun _=>rfl) rfl))<|obs_nil) fun Q' hQ a w6 s hr hd=> ?_
    obtain ⟨b11,hB11,e11,s⟩:=s.adoptA false 11 (hr (_,_) mz8) sg (fun y hy=> .inl (so y hy))
    obtain ⟨b12,hB12,e12,s⟩:=s.adoptA false 12 (hr (_,_) mz9) sg (fun y hy=>by rcases List.mem_cons.1 hy with rfl|hy;exact .inr (.inr fun b hb=>hd _ _ (.head _) mz1 (by show 8≠9;decide) _ _ e11 hb);exact .inl (so y hy))
    refine t_store (CU.agg (fQN (mM))) ((fQN (mM)).toSF) rfl s (by kernel_rfl) rfl rfl rfl iiz iiz (qn_store) fun a w s=> ?_
    refine t_store (CU.agg (fQN (nN))) ((fQN (nN)).toSF) rfl s (by kernel_rfl) rfl rfl rfl iiz iiz (qn_store) fun a w s=> ?_
    refine tail_end rfl (hQ _ _ ?_)
    refine wpIn_seq ?_
    refine wpIn_seq ?_
    refine region_go 3 ((41, .s ((fQN (mM)).toSF))::(42, .s ((UF.eq (.int .i64 (mM.num.sign))).toSF))::(43, .u (UF.eq (.bool (decide (mM.num.sign≥0))))):: []) hmix s (by kernel_rfl)
      (oc (ok_ldW (f:=fQN (mM)) 3 (by kernel_rfl) (hz:=qn_len _))<|oc (ok_call1 wide_wide en_42 (fun u0 W hb (h0:QNp (mM) u0 W)=>r7sign_q (m:=55) (QNp.rv h0 hqm) (by decide)))<|oc (ok_cmpI .i64 (mM.num.sign) (0) (decide (mM.num.sign≥0)) iiz iiz rfl rfl)<|obs_nil) fun a w7 s=> ?_
    refine tail_end rfl ?_
    refine StS.cond s (decide (mM.num.sign≥0)) iiz (fun e=> ?_) (fun e=> ?_)
    · have c1:=ge_t (a:=a_) (b:=b_) (p:=at_ ps p.1) (by rw [←hM];exact e)
      refine region_goSN 3 ((44, .u (UF.eq (p.2)))::(45, .s ((fPV (19) ((at_ ps p.1))).toSF))::(46, .s (SF.row 6 [CU.agg (fPV (19) ((at_ ps p.1)))])):: []) s (by kernel_rfl)
        (oc ok_move<|oc (ok_ldW (f:=fPV (19) ((at_ ps p.1))) 6 (by kernel_rfl) (hz:=pt_len _ _))<|oc (ok_slice1 (fun u W (hu:(fPV (19) ((at_ ps p.1))).p u W)=>sl_pt1 hu))<|obs_nil) fun a w8 s hr=> ?_
      have hlow: ∀{k},(p.2).ownBlock=some k→base≤k:=fun {k} e=>((hI.2.2).lt k e).1
      refine t_app2 ([CU.agg (fPV (19) ((at_ ps p.1)))]) s0 (s.keepK [(44, .u (UF.eq (p.2))),(43, .u (UF.eq (.bool (decide (mM.num.sign≥0))))),(36, .u (fQN (mM))),(40, .u (fQN (nN))),(24, .u (fPV (19) ((at_ ps p.1)))),(32, .u (fPV (19) ((at_ ps ((p.1+1) % ps.length))))),(18, .u (UF.eq (.bool (decide (((p.1:Nat):Int)<(((pvs (19) (ps)).length:Nat):Int)))))),(0, .u (UF.eq l)),(7, .u (UF.eq (p.2))),(8, .u (UF.eq (.int .i64 (((p.1:Nat):Int)))))] (fmz ⟨.head _,fmz ⟨mz1,fmz ⟨mz2,fmz ⟨mz3,fmz ⟨mz4,fmz ⟨mz5,fmz ⟨mz6,fmz ⟨mz7,fmz ⟨mz8,fmz ⟨mz9,fnz⟩⟩⟩⟩⟩⟩⟩⟩⟩⟩)) hb0 ⟨hI.2.1,hI.2.2⟩ rfl (by kernel_rfl) (by kernel_rfl) (by kernel_rfl) (s.fct (.tmp 44)) (hr (_,_) mz2) (one_ok _ _) (by have:=pieceK_len (lin a_ b_) ps p.1;simp;omega) (fun q hq hr e=>by
          rcases List.mem_cons.1 hq with rfl|hq
          · cases hr
          rcases List.mem_cons.1 hq with rfl|hq
          · cases hr
          rcases List.mem_cons.1 hq with rfl|hq
          · cases hr
          rcases List.mem_cons.1 hq with rfl|hq
          · cases hr
          rcases List.mem_cons.1 hq with rfl|hq
          · exact absurd (hlow e) (Nat.not_le.2 hB5)
          rcases List.mem_cons.1 hq with rfl|hq
          · exact absurd (hlow e) (Nat.not_le.2 hB4)
          cases hq) fun v1 a w hI1 hN1 s=> ?_
      have s1:=s
      replace s:StS _ _ _ [⟨12,29,CU.agg (fQN (nN)),b12,true⟩,⟨11,29,CU.agg (fQN (mM)),b11,true⟩,⟨10,31,CU.agg (fPV (19) ((at_ ps ((p.1+1) % ps.length)))),b10,true⟩,⟨9,31,CU.agg (fPV (19) ((at_ ps p.1))),b9,true⟩,⟨5,31,CU.agg (fPV (2) (b_)),b5,true⟩,⟨4,31,CU.agg (fPV (2) (a_)),b4,true⟩] _ _ _ _:=s.freeze
      replace s:=s.reb rfl [(47, .u (UF.eq (v1))),(44, .u (UF.eq (p.2))),(43, .u (UF.eq (.bool (decide (mM.num.sign≥0))))),(36, .u (fQN (mM))),(40, .u (fQN (nN))),(24, .u (fPV (19) ((at_ ps p.1)))),(32, .u (fPV (19) ((at_ ps ((p.1+1) % ps.length))))),(18, .u (UF.eq (.bool (decide (((p.1:Nat):Int)<(((pvs (19) (ps)).length:Nat):Int)))))),(0, .u (UF.eq l)),(7, .u (UF.eq (p.2))),(8, .u (UF.eq (.int .i64 (((p.1:Nat):Int)))))] (fmz ⟨.inl (.head _),fmz ⟨.inl mz1,fmz ⟨.inl mz2,fmz ⟨.inl mz3,fmz ⟨.inl mz4,fmz ⟨.inl mz5,fmz ⟨.inl mz6,fmz ⟨.inl mz7,fmz ⟨.inl mz8,fmz ⟨.inl mz9,fmz ⟨.inl mz10,fnz⟩⟩⟩⟩⟩⟩⟩⟩⟩⟩⟩)
      replace s:=s.drop [7]
      refine t_set (UF.eq (v1)) rfl s (by kernel_rfl) iiz fun a w s=> ?_
      refine tail_end rfl ?_
      refine wpIn_seq ?_
      refine region_go 6 ((48, .s ((fQN (mM)).toSF))::(49, .s ((UF.eq (.int .i64 (mM.num.sign))).toSF))::(50, .s ((fQN (nN)).toSF))::(51, .s ((UF.eq (.int .i64 (nN.num.sign))).toSF))::(52, .s ((UF.eq (.int .i64 ((mM.num.sign*nN.num.sign)))).toSF))::(53, .u (UF.eq (.bool (decide ((mM.num.sign*nN.num.sign)<0))))):: []) hmix s (by kernel_rfl)
        (oc (ok_ldW (f:=fQN (mM)) 3 (by kernel_rfl) (hz:=qn_len _))<|oc (ok_call1 wide_wide en_42 (fun u0 W hb (h0:QNp (mM) u0 W)=>r7sign_q (m:=55) (QNp.rv h0 hqm) (by decide)))<|oc (ok_ldW (f:=fQN (nN)) 3 (by kernel_rfl) (hz:=qn_len _))<|oc (ok_call1 wide_wide en_42 (fun u0 W hb (h0:QNp (nN) u0 W)=>r7sign_q (m:=55) (QNp.rv h0 hqn) (by decide)))<|oc (ok_mulZ .i64 (mM.num.sign) (nN.num.sign) (mM.num.sign*nN.num.sign) iiz iiz (by have:=mul_small (sign_small mM.num) (sign_small nN.num);rw [IntKind.wrap_i64];omega))<|oc (ok_cmpI .i64 ((mM.num.sign*nN.num.sign)) (0) (decide ((mM.num.sign*nN.num.sign)<0)) iiz iiz rfl rfl)<|obs_nil) fun a w9 s=> ?_
      refine tail_end rfl ?_
      refine StS.cond s (decide ((mM.num.sign*nN.num.sign)<0)) iiz (fun e=> ?_) (fun e=> ?_)
      · have c2:=cr_t (a:=a_) (b:=b_) (p:=at_ ps p.1) (q:=(at_ ps ((p.1+1) % ps.length))) (by rw [←hM, ←hN];exact e)
        refine wpIn_seq ?_
        have so:=s.old;have sg:=s.gr
        refine region_goA2 (fun i=> [7].contains i) [⟨8,13,29, [.bool false, .slice none 0 0, .slice none 0 0],SF.newBox w9 29 (CU.len 3)⟩] 9 ((55, .s ((fQN (mM)).toSF))::(56, .s ((fQN (mM)).toSF))::(57, .s ((fQN (nN)).toSF))::(58, .s ((fQN ((mM - nN))).toSF))::(59, .s ((fTup2 (fQN ((mM / (mM - nN)))) (UF.eq (.int .i64 ((if (mM - nN)=0 then 30 else 0))))).toSF))::(54, .s ((fTup2 (fQN ((mM / (mM - nN)))) (UF.eq (.int .i64 ((if (mM - nN)=0 then 30 else 0))))).toSF))::(60, .u (fQN ((mM / (mM - nN)))))::(61, .u (UF.eq (.int .i64 ((if (mM - nN)=0 then 30 else 0)))))::(13, .s (SF.newBox w9 29 (CU.len 3))):: []) hmix s (fmz ⟨⟨by show 8<9;decide,mz8,⟨_,_,_,rfl⟩,by kernel_rfl,own_new (fun _=>rfl) rfl⟩,fnz⟩) (by kernel_rfl)
          (oc (ok_ldW (f:=fQN (mM)) 3 (by kernel_rfl) (hz:=qn_len _))<|oc (ok_ldW (f:=fQN (mM)) 3 (by kernel_rfl) (hz:=qn_len _))<|oc (ok_ldW (f:=fQN (nN)) 3 (by kernel_rfl) (hz:=qn_len _))<|oc (ok_call2 wide_wide en_103 (fun u0 u1 W hb (h0:QNp (mM) u0 W) (h1:QNp (nN) u1 W)=>r7sub_q (m:=55) (QNp.rv h0 hqm) (QNp.rv h1 hqn) (by decide) (by decide)))<|oc (ok_call2 wide_wide en_26 (fun u0 u1 W hb (h0:QNp (mM) u0 W) (h1:QNp ((mM - nN)) u1 W)=>r7quo_q (m:=111) (QNp.rv h0 (hqm.mono (by decide))) (QNp.rv h1 hqd) (by decide) (by decide)))<|oc ok_move<|oc (ok_ext20 (A:=(fQN ((mM / (mM - nN)))).toSF) (B:=(UF.eq (.int .i64 ((if (mM - nN)=0 then 30 else 0)))).toSF) iiz)<|oc (ok_ext21 (A:=(fQN ((mM / (mM - nN)))).toSF) (B:=(UF.eq (.int .i64 ((if (mM - nN)=0 then 30 else 0)))).toSF) iiz)<|oc (ok_alloc (cs:= [.bool false, .slice none 0 0, .slice none 0 0]) (by kernel_rfl) (own_new (fun _=>rfl) rfl))<|obs_nil) fun Q' hQ a w10 s hr hd=> ?_
        obtain ⟨b13,hB13,e13,s⟩:=s.adoptA false 13 (hr (_,_) mz8) sg (fun y hy=> .inl (so y hy))
        refine t_store (CU.agg (fQN ((mM / (mM - nN))))) ((fQN ((mM / (mM - nN)))).toSF) rfl s (by kernel_rfl) rfl rfl rfl iiz iiz (qn_store) fun a w s=> ?_
        refine t_set (UF.eq (.int .i64 ((if (mM - nN)=0 then 30 else 0)))) rfl s (by kernel_rfl) iiz fun a w s=> ?_
        refine tail_end rfl (hQ _ _ ?_)
        refine region_goSN 6 ((62, .u (UF.eq (v1)))::(63, .s ((fPV (19) ((at_ ps p.1))).toSF))::(64, .s ((fPV (19) ((at_ ps ((p.1+1) % ps.length)))).toSF))::(65, .s ((fQN ((mM / (mM - nN)))).toSF))::(66, .s ((fPV (19) ((cpt (lin a_ b_) (at_ ps p.1) (at_ ps ((p.1+1) % ps.length))))).toSF))::(67, .s (SF.row 6 [CU.agg (fPV (19) ((cpt (lin a_ b_) (at_ ps p.1) (at_ ps ((p.1+1) % ps.length)))))])):: []) s (by kernel_rfl)
          (oc ok_move<|oc (ok_ldW (f:=fPV (19) ((at_ ps p.1))) 6 (by kernel_rfl) (hz:=pt_len _ _))<|oc (ok_ldW (f:=fPV (19) ((at_ ps ((p.1+1) % ps.length)))) 6 (by kernel_rfl) (hz:=pt_len _ _))<|oc (ok_ldW (f:=fQN ((mM / (mM - nN)))) 3 (by kernel_rfl) (hz:=qn_len _))<|oc (ok_call3 wide_wide en_44 (fun u0 u1 u2 W hb (h0:(fPV (19) ((at_ ps p.1))).p u0 W) (h1:(fPV (19) ((at_ ps ((p.1+1) % ps.length)))).p u1 W) (h2:QNp ((mM / (mM - nN))) u2 W)=>(r8at_p (m:=19) (k:=166) 205 (p:=(at_ ps p.1)) (q:=(at_ ps ((p.1+1) % ps.length))) (t:=mM / (mM - nN)) h0 h1 (QNp.rv h2 hqt) hqi hqj hqt (by decide) (by decide) (by decide)).mono (Ret.to (fun v W h=>by rw [hM,hN,cpt_eq] at h;exact pn_pv (hcp c2).1 (hcp c2).2 h))))<|oc (ok_slice1 (fun u W (hu:(fPV (19) ((cpt (lin a_ b_) (at_ ps p.1) (at_ ps ((p.1+1) % ps.length))))).p u W)=>sl_pt1 hu))<|obs_nil) fun a w11 s hr=> ?_
        have hlow: ∀{k},(v1).ownBlock=some k→base≤k:=fun {k} e=>((hI1.2).lt k e).1
        refine t_app2 ([CU.agg (fPV (19) ((cpt (lin a_ b_) (at_ ps p.1) (at_ ps ((p.1+1) % ps.length)))))]) s1 (s.keepK [(62, .u (UF.eq (v1))),(14, .u (UF.eq (.int .i64 ((if (mM - nN)=0 then 30 else 0))))),(60, .u (fQN ((mM / (mM - nN))))),(61, .u (UF.eq (.int .i64 ((if (mM - nN)=0 then 30 else 0))))),(53, .u (UF.eq (.bool (decide ((mM.num.sign*nN.num.sign)<0))))),(7, .u (UF.eq (v1))),(47, .u (UF.eq (v1))),(44, .u (UF.eq (p.2))),(43, .u (UF.eq (.bool (decide (mM.num.sign≥0))))),(36, .u (fQN (mM))),(40, .u (fQN (nN))),(24, .u (fPV (19) ((at_ ps p.1)))),(32, .u (fPV (19) ((at_ ps ((p.1+1) % ps.length))))),(18, .u (UF.eq (.bool (decide (((p.1:Nat):Int)<(((pvs (19) (ps)).length:Nat):Int)))))),(0, .u (UF.eq l)),(8, .u (UF.eq (.int .i64 (((p.1:Nat):Int)))))] (fmz ⟨.head _,fmz ⟨mz1,fmz ⟨mz2,fmz ⟨mz3,fmz ⟨mz4,fmz ⟨mz5,fmz ⟨mz6,fmz ⟨mz7,fmz ⟨mz8,fmz ⟨mz9,fmz ⟨mz10,fmz ⟨mz11,fmz ⟨mz12,fmz ⟨mz13,fmz ⟨mz14,fmz ⟨mz15,fnz⟩⟩⟩⟩⟩⟩⟩⟩⟩⟩⟩⟩⟩⟩⟩⟩)) hb0 hI1 rfl (by kernel_rfl) (by kernel_rfl) (by kernel_rfl) (s.fct (.tmp 62)) (hr (_,_) mz5) (one_ok _ _) (by have:=pieceK_len (lin a_ b_) ps p.1;simp;omega) (fun q hq hr e=>by
            rcases List.mem_cons.1 hq with rfl|hq
            · cases hr
            rcases List.mem_cons.1 hq with rfl|hq
            · exact hN1 _ (.head _) e
            rcases List.mem_cons.1 hq with rfl|hq
            · exact hN1 _ mz1 e
            rcases List.mem_cons.1 hq with rfl|hq
            · exact hN1 _ mz2 e
            rcases List.mem_cons.1 hq with rfl|hq
            · exact hN1 _ mz3 e
            rcases List.mem_cons.1 hq with rfl|hq
            · exact absurd (hlow e) (Nat.not_le.2 hB5)
            rcases List.mem_cons.1 hq with rfl|hq
            · exact absurd (hlow e) (Nat.not_le.2 hB4)
            cases hq) fun v2 a w hI2 hN2 s=> ?_
        have s1:=s
        replace s:StS _ _ _ [⟨13,29,CU.agg (fQN ((mM / (mM - nN)))),b13,true⟩,⟨12,29,CU.agg (fQN (nN)),b12,true⟩,⟨11,29,CU.agg (fQN (mM)),b11,true⟩,⟨10,31,CU.agg (fPV (19) ((at_ ps ((p.1+1) % ps.length)))),b10,true⟩,⟨9,31,CU.agg (fPV (19) ((at_ ps p.1))),b9,true⟩,⟨5,31,CU.agg (fPV (2) (b_)),b5,true⟩,⟨4,31,CU.agg (fPV (2) (a_)),b4,true⟩] _ _ _ _:=s.freeze
        replace s:=s.reb rfl [(68, .u (UF.eq (v2))),(62, .u (UF.eq (v1))),(14, .u (UF.eq (.int .i64 ((if (mM - nN)=0 then 30 else 0))))),(60, .u (fQN ((mM / (mM - nN))))),(61, .u (UF.eq (.int .i64 ((if (mM - nN)=0 then 30 else 0))))),(53, .u (UF.eq (.bool (decide ((mM.num.sign*nN.num.sign)<0))))),(7, .u (UF.eq (v1))),(47, .u (UF.eq (v1))),(44, .u (UF.eq (p.2))),(43, .u (UF.eq (.bool (decide (mM.num.sign≥0))))),(36, .u (fQN (mM))),(40, .u (fQN (nN))),(24, .u (fPV (19) ((at_ ps p.1)))),(32, .u (fPV (19) ((at_ ps ((p.1+1) % ps.length))))),(18, .u (UF.eq (.bool (decide (((p.1:Nat):Int)<(((pvs (19) (ps)).length:Nat):Int)))))),(0, .u (UF.eq l)),(8, .u (UF.eq (.int .i64 (((p.1:Nat):Int)))))] (fmz ⟨.inl (.head _),fmz ⟨.inl mz1,fmz ⟨.inl mz2,fmz ⟨.inl mz3,fmz ⟨.inl mz4,fmz ⟨.inl mz5,fmz ⟨.inl mz6,fmz ⟨.inl mz7,fmz ⟨.inl mz8,fmz ⟨.inl mz9,fmz ⟨.inl mz10,fmz ⟨.inl mz11,fmz ⟨.inl mz12,fmz ⟨.inl mz13,fmz ⟨.inl mz14,fmz ⟨.inl mz15,fmz ⟨.inl (.tail _ mz15),fnz⟩⟩⟩⟩⟩⟩⟩⟩⟩⟩⟩⟩⟩⟩⟩⟩⟩)
        replace s:=s.drop [7]
        refine t_set (UF.eq (v2)) rfl s (by kernel_rfl) iiz fun a w s=> ?_
        refine tail_end rfl ?_
        refine region_goS 2 ((19, .s ((UF.eq (.int .i64 (((p.1:Nat):Int)))).toSF))::(20, .u (UF.eq (.int .i64 (((p.1+1:Nat):Int))))):: []) s (by kernel_rfl)
          (oc ok_move<|oc (ok_addI .i64 (((p.1:Nat):Int)) (1) (((p.1+1:Nat):Int)) iiz iiz (wrap64 _ _ (by omega) (by omega)))<|obs_nil) fun a w12 s=> ?_
        replace s:=s.drop [8]
        refine t_set (UF.eq (.int .i64 (((p.1+1:Nat):Int)))) rfl s (by kernel_rfl) iiz fun a w s=> ?_
        refine tail_end rfl ?_
        replace s:=s.popB
        replace s:=s.popB
        replace s:=s.popB
        replace s:=s.popB
        replace s:=s.popB
        have hbw:=s.below
        replace s:=s1.back (s.keepK [(8, .u (UF.eq (.int .i64 (((p.1+1:Nat):Int))))),(20, .u (UF.eq (.int .i64 (((p.1+1:Nat):Int))))),(7, .u (UF.eq (v2))),(68, .u (UF.eq (v2))),(62, .u (UF.eq (v1))),(14, .u (UF.eq (.int .i64 ((if (mM - nN)=0 then 30 else 0))))),(60, .u (fQN ((mM / (mM - nN))))),(61, .u (UF.eq (.int .i64 ((if (mM - nN)=0 then 30 else 0))))),(53, .u (UF.eq (.bool (decide ((mM.num.sign*nN.num.sign)<0))))),(47, .u (UF.eq (v1))),(44, .u (UF.eq (p.2))),(43, .u (UF.eq (.bool (decide (mM.num.sign≥0))))),(36, .u (fQN (mM))),(40, .u (fQN (nN))),(24, .u (fPV (19) ((at_ ps p.1)))),(32, .u (fPV (19) ((at_ ps ((p.1+1) % ps.length))))),(18, .u (UF.eq (.bool (decide (((p.1:Nat):Int)<(((pvs (19) (ps)).length:Nat):Int)))))),(0, .u (UF.eq l))] (fmz ⟨.head _,fmz ⟨mz1,fmz ⟨mz2,fmz ⟨mz3,fmz ⟨mz4,fmz ⟨mz5,fmz ⟨mz6,fmz ⟨mz7,fmz ⟨mz8,fmz ⟨mz9,fmz ⟨mz10,fmz ⟨mz11,fmz ⟨mz12,fmz ⟨mz13,fmz ⟨mz14,fmz ⟨mz15,fmz ⟨.tail _ mz15,fmz ⟨.tail _ (.tail _ mz15),fnz⟩⟩⟩⟩⟩⟩⟩⟩⟩⟩⟩⟩⟩⟩⟩⟩⟩⟩)) rfl
        exact ⟨(p.1+1,v2),(by show ps.length - (p.1+1)<ps.length - p.1;omega),⟨hk,Nat.le_trans hI2.1 hbw.size,by rw [pieceK_succ,piece_tt c1 c2, ←row_tt];exact hI2.2.below hbw⟩,s.keepK _ (fmz ⟨.tail _ (.tail _ mz15),fmz ⟨mz2,fmz ⟨.head _,fnz⟩⟩⟩)⟩
      · have c2:=cr_f (a:=a_) (b:=b_) (p:=at_ ps p.1) (q:=(at_ ps ((p.1+1) % ps.length))) (by rw [←hM, ←hN];exact e)
        refine wpIn_skip ?_
        refine region_goS 2 ((19, .s ((UF.eq (.int .i64 (((p.1:Nat):Int)))).toSF))::(20, .u (UF.eq (.int .i64 (((p.1+1:Nat):Int))))):: []) s (by kernel_rfl)
          (oc ok_move<|oc (ok_addI .i64 (((p.1:Nat):Int)) (1) (((p.1+1:Nat):Int)) iiz iiz (wrap64 _ _ (by omega) (by omega)))<|obs_nil) fun a w13 s=> ?_
        replace s:=s.drop [8]
        refine t_set (UF.eq (.int .i64 (((p.1+1:Nat):Int)))) rfl s (by kernel_rfl) iiz fun a w s=> ?_
        refine tail_end rfl ?_
        replace s:=s.popB
        replace s:=s.popB
        replace s:=s.popB
        replace s:=s.popB
        have hbw:=s.below
        replace s:=s1.back (s.keepK [(8, .u (UF.eq (.int .i64 (((p.1+1:Nat):Int))))),(20, .u (UF.eq (.int .i64 (((p.1+1:Nat):Int))))),(53, .u (UF.eq (.bool (decide ((mM.num.sign*nN.num.sign)<0))))),(7, .u (UF.eq (v1))),(47, .u (UF.eq (v1))),(44, .u (UF.eq (p.2))),(43, .u (UF.eq (.bool (decide (mM.num.sign≥0))))),(36, .u (fQN (mM))),(40, .u (fQN (nN))),(24, .u (fPV (19) ((at_ ps p.1)))),(32, .u (fPV (19) ((at_ ps ((p.1+1) % ps.length))))),(18, .u (UF.eq (.bool (decide (((p.1:Nat):Int)<(((pvs (19) (ps)).length:Nat):Int)))))),(0, .u (UF.eq l))] (fmz ⟨.head _,fmz ⟨mz1,fmz ⟨mz2,fmz ⟨mz3,fmz ⟨mz4,fmz ⟨mz5,fmz ⟨mz6,fmz ⟨mz7,fmz ⟨mz8,fmz ⟨mz9,fmz ⟨mz10,fmz ⟨mz11,fmz ⟨mz12,fnz⟩⟩⟩⟩⟩⟩⟩⟩⟩⟩⟩⟩⟩)) rfl
        exact ⟨(p.1+1,v1),(by show ps.length - (p.1+1)<ps.length - p.1;omega),⟨hk,Nat.le_trans hI1.1 hbw.size,by rw [pieceK_succ,piece_tf c1 c2, ←pvs_snoc];exact hI1.2.below hbw⟩,s.keepK _ (fmz ⟨mz12,fmz ⟨mz3,fmz ⟨.head _,fnz⟩⟩⟩)⟩
    · have c1:=ge_f (a:=a_) (b:=b_) (p:=at_ ps p.1) (by rw [←hM];exact e)
      refine wpIn_skip ?_
      refine wpIn_seq ?_
      refine region_go 6 ((48, .s ((fQN (mM)).toSF))::(49, .s ((UF.eq (.int .i64 (mM.num.sign))).toSF))::(50, .s ((fQN (nN)).toSF))::(51, .s ((UF.eq (.int .i64 (nN.num.sign))).toSF))::(52, .s ((UF.eq (.int .i64 ((mM.num.sign*nN.num.sign)))).toSF))::(53, .u (UF.eq (.bool (decide ((mM.num.sign*nN.num.sign)<0))))):: []) hmix s (by kernel_rfl)
        (oc (ok_ldW (f:=fQN (mM)) 3 (by kernel_rfl) (hz:=qn_len _))<|oc (ok_call1 wide_wide en_42 (fun u0 W hb (h0:QNp (mM) u0 W)=>r7sign_q (m:=55) (QNp.rv h0 hqm) (by decide)))<|oc (ok_ldW (f:=fQN (nN)) 3 (by kernel_rfl) (hz:=qn_len _))<|oc (ok_call1 wide_wide en_42 (fun u0 W hb (h0:QNp (nN) u0 W)=>r7sign_q (m:=55) (QNp.rv h0 hqn) (by decide)))<|oc (ok_mulZ .i64 (mM.num.sign) (nN.num.sign) (mM.num.sign*nN.num.sign) iiz iiz (by have:=mul_small (sign_small mM.num) (sign_small nN.num);rw [IntKind.wrap_i64];omega))<|oc (ok_cmpI .i64 ((mM.num.sign*nN.num.sign)) (0) (decide ((mM.num.sign*nN.num.sign)<0)) iiz iiz rfl rfl)<|obs_nil) fun a w14 s=> ?_
      refine tail_end rfl ?_
      refine StS.cond s (decide ((mM.num.sign*nN.num.sign)<0)) iiz (fun e=> ?_) (fun e=> ?_)
      · have c2:=cr_t (a:=a_) (b:=b_) (p:=at_ ps p.1) (q:=(at_ ps ((p.1+1) % ps.length))) (by rw [←hM, ←hN];exact e)
        refine wpIn_seq ?_
        have so:=s.old;have sg:=s.gr
        refine region_goA2 (fun i=> [7].contains i) [⟨8,13,29, [.bool false, .slice none 0 0, .slice none 0 0],SF.newBox w14 29 (CU.len 3)⟩] 9 ((55, .s ((fQN (mM)).toSF))::(56, .s ((fQN (mM)).toSF))::(57, .s ((fQN (nN)).toSF))::(58, .s ((fQN ((mM - nN))).toSF))::(59, .s ((fTup2 (fQN ((mM / (mM - nN)))) (UF.eq (.int .i64 ((if (mM - nN)=0 then 30 else 0))))).toSF))::(54, .s ((fTup2 (fQN ((mM / (mM - nN)))) (UF.eq (.int .i64 ((if (mM - nN)=0 then 30 else 0))))).toSF))::(60, .u (fQN ((mM / (mM - nN)))))::(61, .u (UF.eq (.int .i64 ((if (mM - nN)=0 then 30 else 0)))))::(13, .s (SF.newBox w14 29 (CU.len 3))):: []) hmix s (fmz ⟨⟨by show 8<9;decide,mz8,⟨_,_,_,rfl⟩,by kernel_rfl,own_new (fun _=>rfl) rfl⟩,fnz⟩) (by kernel_rfl)
          (oc (ok_ldW (f:=fQN (mM)) 3 (by kernel_rfl) (hz:=qn_len _))<|oc (ok_ldW (f:=fQN (mM)) 3 (by kernel_rfl) (hz:=qn_len _))<|oc (ok_ldW (f:=fQN (nN)) 3 (by kernel_rfl) (hz:=qn_len _))<|oc (ok_call2 wide_wide en_103 (fun u0 u1 W hb (h0:QNp (mM) u0 W) (h1:QNp (nN) u1 W)=>r7sub_q (m:=55) (QNp.rv h0 hqm) (QNp.rv h1 hqn) (by decide) (by decide)))<|oc (ok_call2 wide_wide en_26 (fun u0 u1 W hb (h0:QNp (mM) u0 W) (h1:QNp ((mM - nN)) u1 W)=>r7quo_q (m:=111) (QNp.rv h0 (hqm.mono (by decide))) (QNp.rv h1 hqd) (by decide) (by decide)))<|oc ok_move<|oc (ok_ext20 (A:=(fQN ((mM / (mM - nN)))).toSF) (B:=(UF.eq (.int .i64 ((if (mM - nN)=0 then 30 else 0)))).toSF) iiz)<|oc (ok_ext21 (A:=(fQN ((mM / (mM - nN)))).toSF) (B:=(UF.eq (.int .i64 ((if (mM - nN)=0 then 30 else 0)))).toSF) iiz)<|oc (ok_alloc (cs:= [.bool false, .slice none 0 0, .slice none 0 0]) (by kernel_rfl) (own_new (fun _=>rfl) rfl))<|obs_nil) fun Q' hQ a w15 s hr hd=> ?_
        obtain ⟨b13,hB13,e13,s⟩:=s.adoptA false 13 (hr (_,_) mz8) sg (fun y hy=> .inl (so y hy))
        refine t_store (CU.agg (fQN ((mM / (mM - nN))))) ((fQN ((mM / (mM - nN)))).toSF) rfl s (by kernel_rfl) rfl rfl rfl iiz iiz (qn_store) fun a w s=> ?_
        refine t_set (UF.eq (.int .i64 ((if (mM - nN)=0 then 30 else 0)))) rfl s (by kernel_rfl) iiz fun a w s=> ?_
        refine tail_end rfl (hQ _ _ ?_)
        refine region_goSN 6 ((62, .u (UF.eq (p.2)))::(63, .s ((fPV (19) ((at_ ps p.1))).toSF))::(64, .s ((fPV (19) ((at_ ps ((p.1+1) % ps.length)))).toSF))::(65, .s ((fQN ((mM / (mM - nN)))).toSF))::(66, .s ((fPV (19) ((cpt (lin a_ b_) (at_ ps p.1) (at_ ps ((p.1+1) % ps.length))))).toSF))::(67, .s (SF.row 6 [CU.agg (fPV (19) ((cpt (lin a_ b_) (at_ ps p.1) (at_ ps ((p.1+1) % ps.length)))))])):: []) s (by kernel_rfl)
          (oc ok_move<|oc (ok_ldW (f:=fPV (19) ((at_ ps p.1))) 6 (by kernel_rfl) (hz:=pt_len _ _))<|oc (ok_ldW (f:=fPV (19) ((at_ ps ((p.1+1) % ps.length)))) 6 (by kernel_rfl) (hz:=pt_len _ _))<|oc (ok_ldW (f:=fQN ((mM / (mM - nN)))) 3 (by kernel_rfl) (hz:=qn_len _))<|oc (ok_call3 wide_wide en_44 (fun u0 u1 u2 W hb (h0:(fPV (19) ((at_ ps p.1))).p u0 W) (h1:(fPV (19) ((at_ ps ((p.1+1) % ps.length)))).p u1 W) (h2:QNp ((mM / (mM - nN))) u2 W)=>(r8at_p (m:=19) (k:=166) 205 (p:=(at_ ps p.1)) (q:=(at_ ps ((p.1+1) % ps.length))) (t:=mM / (mM - nN)) h0 h1 (QNp.rv h2 hqt) hqi hqj hqt (by decide) (by decide) (by decide)).mono (Ret.to (fun v W h=>by rw [hM,hN,cpt_eq] at h;exact pn_pv (hcp c2).1 (hcp c2).2 h))))<|oc (ok_slice1 (fun u W (hu:(fPV (19) ((cpt (lin a_ b_) (at_ ps p.1) (at_ ps ((p.1+1) % ps.length))))).p u W)=>sl_pt1 hu))<|obs_nil) fun a w16 s hr=> ?_
        have hlow: ∀{k},(p.2).ownBlock=some k→base≤k:=fun {k} e=>((hI.2.2).lt k e).1
        refine t_app2 ([CU.agg (fPV (19) ((cpt (lin a_ b_) (at_ ps p.1) (at_ ps ((p.1+1) % ps.length)))))]) s0 (s.keepK [(62, .u (UF.eq (p.2))),(14, .u (UF.eq (.int .i64 ((if (mM - nN)=0 then 30 else 0))))),(60, .u (fQN ((mM / (mM - nN))))),(61, .u (UF.eq (.int .i64 ((if (mM - nN)=0 then 30 else 0))))),(53, .u (UF.eq (.bool (decide ((mM.num.sign*nN.num.sign)<0))))),(43, .u (UF.eq (.bool (decide (mM.num.sign≥0))))),(36, .u (fQN (mM))),(40, .u (fQN (nN))),(24, .u (fPV (19) ((at_ ps p.1)))),(32, .u (fPV (19) ((at_ ps ((p.1+1) % ps.length))))),(18, .u (UF.eq (.bool (decide (((p.1:Nat):Int)<(((pvs (19) (ps)).length:Nat):Int)))))),(0, .u (UF.eq l)),(7, .u (UF.eq (p.2))),(8, .u (UF.eq (.int .i64 (((p.1:Nat):Int)))))] (fmz ⟨.head _,fmz ⟨mz1,fmz ⟨mz2,fmz ⟨mz3,fmz ⟨mz4,fmz ⟨mz5,fmz ⟨mz6,fmz ⟨mz7,fmz ⟨mz8,fmz ⟨mz9,fmz ⟨mz10,fmz ⟨mz11,fmz ⟨mz12,fmz ⟨mz13,fnz⟩⟩⟩⟩⟩⟩⟩⟩⟩⟩⟩⟩⟩⟩)) hb0 ⟨hI.2.1,hI.2.2⟩ rfl (by kernel_rfl) (by kernel_rfl) (by kernel_rfl) (s.fct (.tmp 62)) (hr (_,_) mz5) (one_ok _ _) (by have:=pieceK_len (lin a_ b_) ps p.1;simp;omega) (fun q hq hr e=>by
            rcases List.mem_cons.1 hq with rfl|hq
            · cases hr
            rcases List.mem_cons.1 hq with rfl|hq
            · cases hr
            rcases List.mem_cons.1 hq with rfl|hq
            · cases hr
            rcases List.mem_cons.1 hq with rfl|hq
            · cases hr
            rcases List.mem_cons.1 hq with rfl|hq
            · cases hr
            rcases List.mem_cons.1 hq with rfl|hq
            · exact absurd (hlow e) (Nat.not_le.2 hB5)
            rcases List.mem_cons.1 hq with rfl|hq
            · exact absurd (hlow e) (Nat.not_le.2 hB4)
            cases hq) fun v1 a w hI1 hN1 s=> ?_
        have s1:=s
        replace s:StS _ _ _ [⟨13,29,CU.agg (fQN ((mM / (mM - nN)))),b13,true⟩,⟨12,29,CU.agg (fQN (nN)),b12,true⟩,⟨11,29,CU.agg (fQN (mM)),b11,true⟩,⟨10,31,CU.agg (fPV (19) ((at_ ps ((p.1+1) % ps.length)))),b10,true⟩,⟨9,31,CU.agg (fPV (19) ((at_ ps p.1))),b9,true⟩,⟨5,31,CU.agg (fPV (2) (b_)),b5,true⟩,⟨4,31,CU.agg (fPV (2) (a_)),b4,true⟩] _ _ _ _:=s.freeze
        replace s:=s.reb rfl [(68, .u (UF.eq (v1))),(62, .u (UF.eq (p.2))),(14, .u (UF.eq (.int .i64 ((if (mM - nN)=0 then 30 else 0))))),(60, .u (fQN ((mM / (mM - nN))))),(61, .u (UF.eq (.int .i64 ((if (mM - nN)=0 then 30 else 0))))),(53, .u (UF.eq (.bool (decide ((mM.num.sign*nN.num.sign)<0))))),(43, .u (UF.eq (.bool (decide (mM.num.sign≥0))))),(36, .u (fQN (mM))),(40, .u (fQN (nN))),(24, .u (fPV (19) ((at_ ps p.1)))),(32, .u (fPV (19) ((at_ ps ((p.1+1) % ps.length))))),(18, .u (UF.eq (.bool (decide (((p.1:Nat):Int)<(((pvs (19) (ps)).length:Nat):Int)))))),(0, .u (UF.eq l)),(7, .u (UF.eq (p.2))),(8, .u (UF.eq (.int .i64 (((p.1:Nat):Int)))))] (fmz ⟨.inl (.head _),fmz ⟨.inl mz1,fmz ⟨.inl mz2,fmz ⟨.inl mz3,fmz ⟨.inl mz4,fmz ⟨.inl mz5,fmz ⟨.inl mz6,fmz ⟨.inl mz7,fmz ⟨.inl mz8,fmz ⟨.inl mz9,fmz ⟨.inl mz10,fmz ⟨.inl mz11,fmz ⟨.inl mz12,fmz ⟨.inl mz13,fmz ⟨.inl mz14,fnz⟩⟩⟩⟩⟩⟩⟩⟩⟩⟩⟩⟩⟩⟩⟩)
        replace s:=s.drop [7]
        refine t_set (UF.eq (v1)) rfl s (by kernel_rfl) iiz fun a w s=> ?_
        refine tail_end rfl ?_
        refine region_goS 2 ((19, .s ((UF.eq (.int .i64 (((p.1:Nat):Int)))).toSF))::(20, .u (UF.eq (.int .i64 (((p.1+1:Nat):Int))))):: []) s (by kernel_rfl)
          (oc ok_move<|oc (ok_addI .i64 (((p.1:Nat):Int)) (1) (((p.1+1:Nat):Int)) iiz iiz (wrap64 _ _ (by omega) (by omega)))<|obs_nil) fun a w17 s=> ?_
        replace s:=s.drop [8]
        refine t_set (UF.eq (.int .i64 (((p.1+1:Nat):Int)))) rfl s (by kernel_rfl) iiz fun a w s=> ?_
        refine tail_end rfl ?_
        replace s:=s.popB
        replace s:=s.popB
        replace s:=s.popB
        replace s:=s.popB
        replace s:=s.popB
        have hbw:=s.below
        replace s:=s1.back (s.keepK [(8, .u (UF.eq (.int .i64 (((p.1+1:Nat):Int))))),(20, .u (UF.eq (.int .i64 (((p.1+1:Nat):Int))))),(7, .u (UF.eq (v1))),(68, .u (UF.eq (v1))),(62, .u (UF.eq (p.2))),(14, .u (UF.eq (.int .i64 ((if (mM - nN)=0 then 30 else 0))))),(60, .u (fQN ((mM / (mM - nN))))),(61, .u (UF.eq (.int .i64 ((if (mM - nN)=0 then 30 else 0))))),(53, .u (UF.eq (.bool (decide ((mM.num.sign*nN.num.sign)<0))))),(43, .u (UF.eq (.bool (decide (mM.num.sign≥0))))),(36, .u (fQN (mM))),(40, .u (fQN (nN))),(24, .u (fPV (19) ((at_ ps p.1)))),(32, .u (fPV (19) ((at_ ps ((p.1+1) % ps.length))))),(18, .u (UF.eq (.bool (decide (((p.1:Nat):Int)<(((pvs (19) (ps)).length:Nat):Int)))))),(0, .u (UF.eq l))] (fmz ⟨.head _,fmz ⟨mz1,fmz ⟨mz2,fmz ⟨mz3,fmz ⟨mz4,fmz ⟨mz5,fmz ⟨mz6,fmz ⟨mz7,fmz ⟨mz8,fmz ⟨mz9,fmz ⟨mz10,fmz ⟨mz11,fmz ⟨mz12,fmz ⟨mz13,fmz ⟨mz14,fmz ⟨mz15,fnz⟩⟩⟩⟩⟩⟩⟩⟩⟩⟩⟩⟩⟩⟩⟩⟩)) rfl
        exact ⟨(p.1+1,v1),(by show ps.length - (p.1+1)<ps.length - p.1;omega),⟨hk,Nat.le_trans hI1.1 hbw.size,by rw [pieceK_succ,piece_ft c1 c2, ←pvs_snoc];exact hI1.2.below hbw⟩,s.keepK _ (fmz ⟨mz15,fmz ⟨mz2,fmz ⟨.head _,fnz⟩⟩⟩)⟩
      · have c2:=cr_f (a:=a_) (b:=b_) (p:=at_ ps p.1) (q:=(at_ ps ((p.1+1) % ps.length))) (by rw [←hM, ←hN];exact e)
        refine wpIn_skip ?_
        refine region_goS 2 ((19, .s ((UF.eq (.int .i64 (((p.1:Nat):Int)))).toSF))::(20, .u (UF.eq (.int .i64 (((p.1+1:Nat):Int))))):: []) s (by kernel_rfl)
          (oc ok_move<|oc (ok_addI .i64 (((p.1:Nat):Int)) (1) (((p.1+1:Nat):Int)) iiz iiz (wrap64 _ _ (by omega) (by omega)))<|obs_nil) fun a w18 s=> ?_
        replace s:=s.drop [8]
        refine t_set (UF.eq (.int .i64 (((p.1+1:Nat):Int)))) rfl s (by kernel_rfl) iiz fun a w s=> ?_
        refine tail_end rfl ?_
        replace s:=s.popB
        replace s:=s.popB
        replace s:=s.popB
        replace s:=s.popB
        have hbw:=s.below
        replace s:=s0.back (s.keepK [(8, .u (UF.eq (.int .i64 (((p.1+1:Nat):Int))))),(20, .u (UF.eq (.int .i64 (((p.1+1:Nat):Int))))),(53, .u (UF.eq (.bool (decide ((mM.num.sign*nN.num.sign)<0))))),(43, .u (UF.eq (.bool (decide (mM.num.sign≥0))))),(36, .u (fQN (mM))),(40, .u (fQN (nN))),(24, .u (fPV (19) ((at_ ps p.1)))),(32, .u (fPV (19) ((at_ ps ((p.1+1) % ps.length))))),(18, .u (UF.eq (.bool (decide (((p.1:Nat):Int)<(((pvs (19) (ps)).length:Nat):Int)))))),(0, .u (UF.eq l)),(7, .u (UF.eq (p.2)))] (fmz ⟨.head _,fmz ⟨mz1,fmz ⟨mz2,fmz ⟨mz3,fmz ⟨mz4,fmz ⟨mz5,fmz ⟨mz6,fmz ⟨mz7,fmz ⟨mz8,fmz ⟨mz9,fmz ⟨mz10,fnz⟩⟩⟩⟩⟩⟩⟩⟩⟩⟩⟩)) rfl
        exact ⟨(p.1+1,p.2),(by show ps.length - (p.1+1)<ps.length - p.1;omega),⟨hk,Nat.le_trans hI.2.1 hbw.size,by rw [pieceK_succ,piece_ff c1 c2,List.append_nil];exact hI.2.2.below hbw⟩,s.keepK _ (fmz ⟨mz9,fmz ⟨mz10,fmz ⟨.head _,fnz⟩⟩⟩)⟩
  · have hk:p.1=ps.length:=by have h7:=of_decide_eq_false e;have h8:=hI.1;simp at h7;omega
    refine wpIn_exit ?_
    refine wpIn_seq ?_
    refine region_go 2 ((69, .s ((UF.eq (p.2)).toSF))::(6, .u (UF.eq (p.2))):: []) hmix s (by kernel_rfl)
      (oc ok_move<|oc (ok_assign)<|obs_nil) fun a w19 s=> ?_
    refine tail_end rfl ?_
    refine wpIn_ret ?_
    exact StS.resN s s0.below rfl (by rw [s.val (.head _)];have:=(hI.2.2.below s.below).mono hb0;rw [hk] at this;exact this)
theorem both_small {a b:List V2} (ha:a.length≤8) (hb:b.length≤8) {k:Nat} (hk:k≤b.length):(bothK a b k).length≤2048:=by
 have h1:=both_len a b k
 have h2:2^k≤2^8:=Nat.pow_le_pow_right (by decide) (by omega)
 have h3:a.length*2^k≤8*2^8:=Nat.mul_le_mul ha h2
 omega
theorem both_p {W:World} {l r:Value} {ps qs:List V2} (hl:(SF.row 6 (pvs 2 ps)).p l W) (hr0:(SF.row 6 (pvs 2 qs)).p r W) (hcp:Conv ps) (hcq:Conv qs) (hn8:ps.length≤8) (hn8':qs.length≤8):Calls Tryz.prog 23 #[l,r] W (Ret W (SF.row 6 (pvs 19 (bothK ps qs qs.length)))):=by
 have hpb:=both_pb (m:=2) (by decide) hcp hcq (pvs_qb (by decide) hl) (pvs_qb (by decide) hr0)
 refine run_st [(UF.eq l).toSF,(UF.eq r).toSF] Tryz.func23 rfl (by kernel_rfl) ⟨rfl,rfl,trivial⟩ fun a s=> ?_
 replace s:=s.renew [(0, .u (UF.eq (l))),(1, .u (UF.eq (r)))] (fmz ⟨.inr ⟨_,rfl, .head _⟩,fmz ⟨.inr ⟨_,rfl,mz1⟩,fnz⟩⟩)
 refine wpIn_seq ?_
 refine region_go 1 ((4, .u (UF.eq (.slice none 0 0))):: []) hmix s (by kernel_rfl)
  (oc (ok_assign)<|obs_nil) fun a w1 s=> ?_
 refine tail_end rfl ?_
 refine wpIn_seq ?_
 refine region_go 2 ((7, .s ((UF.eq (l)).toSF))::(5, .u (UF.eq (l))):: []) hmix s (by kernel_rfl)
  (oc ok_move<|oc (ok_assign)<|obs_nil) fun a w2 s=> ?_
 refine tail_end rfl ?_
 refine wpIn_seq ?_
 refine wpIn_seq ?_
 refine region_go 1 ((6, .u (UF.eq (.int .i64 (0)))):: []) hmix s (by kernel_rfl)
  (oc (ok_assign)<|obs_nil) fun a w3 s=> ?_
 refine tail_end rfl ?_
 refine wpIn_block ?_
 have hsz0:W.heap.size≤w3.heap.size:=s.gr.size
 have hi0:(SF.row 6 (pvs 19 (bothK ps qs 0))).p l w3:=(SF.row 6 _).st _ _ _ (pvs_mono (m:=2) (by decide) _ _ hl) s.below
 refine st_rows (fun (p:Nat×Value) w=>p.1≤qs.length∧(SF.row 6 (pvs 19 (bothK ps qs p.1))).p p.2 w) (fun p=> [(1, .u (UF.eq r)),(5, .u (UF.eq p.2)),(6, .u (UF.eq (.int .i64 (((p.1:Nat):Int)))))]) (fun p=>qs.length - p.1) ((0,l)) (⟨Nat.zero_le _,hi0⟩) (s.keepK _ (fmz ⟨mz4,fmz ⟨mz1,fmz ⟨.head _,fnz⟩⟩⟩)) fun p a w hI s=> ?_
 have s0:=s
 have hrw:=(SF.row 6 (pvs 2 qs)).st _ _ _ hr0 s0.below
 replace s:=s.reb rfl [(1, .u (UF.eq r)),(5, .u (UF.eq p.2)),(6, .u (UF.eq (.int .i64 (((p.1:Nat):Int)))))] (fmz ⟨.inl (.head _),fmz ⟨.inl mz1,fmz ⟨.inl mz2,fnz⟩⟩⟩)
 refine wpIn_seq ?_
 refine wpIn_seq ?_
 refine region_go 4 ((8, .s ((UF.eq (.int .i64 (((p.1:Nat):Int)))).toSF))::(9, .s ((UF.eq r).toSF))::(10, .s ((UF.eq (.int .i64 ((((pvs (2) (qs)).length:Nat):Int)))).toSF))::(11, .u (UF.eq (.bool (decide (((p.1:Nat):Int)<(((pvs (2) (qs)).length:Nat):Int)))))):: []) hmix s (by kernel_rfl)
  (oc ok_move<|oc ok_move<|oc (ok_lenB (z:=6) (Cs:=pvs (2) (qs)) (by kernel_rfl) (fun v W hb h=>(by rw [show _=r from h];exact (SF.row 6 (pvs (2) (qs))).st _ _ _ hrw (s.up hb))) (fun _=>rfl))<|oc (ok_cmpI .i64 (((p.1:Nat):Int)) ((((pvs (2) (qs)).length:Nat):Int)) (decide (((p.1:Nat):Int)<(((pvs (2) (qs)).length:Nat):Int))) iiz iiz rfl rfl)<|obs_nil) fun a w4 s=> ?_
 refine tail_end rfl ?_
 refine StS.cond s (decide (((p.1:Nat):Int)<(((pvs (2) (qs)).length:Nat):Int))) iiz (fun e=> ?_) (fun e=> ?_)
 ·have hk:p.1<qs.length:=by have:=of_decide_eq_true e;simp at this;omega
  have hj:((p.1+1) % qs.length)<qs.length:=Nat.mod_lt _ (by omega)
  have hlz:(pvs 2 qs).length=qs.length:=by simp
  refine wpIn_skip ?_
  refine wpIn_seq ?_
  refine wpIn_block ?_
  refine region_goPSN (K:= [(11, .u (UF.eq (.bool (decide (((p.1:Nat):Int)<(((pvs (2) (qs)).length:Nat):Int)))))),(1, .u (UF.eq r)),(6, .u (UF.eq (.int .i64 (((p.1:Nat):Int)))))]) [(5, .u (UF.eq p.2))] [0,1,2,5,6,8] 14 ((14, .s ((UF.eq p.2).toSF))::(15, .s ((UF.eq r).toSF))::(16, .s ((UF.eq (.int .i64 (((p.1:Nat):Int)))).toSF))::(17, .s (SF.ptr (CU.agg (fPV (2) ((at_ qs p.1)))).cf))::(18, .s ((fPV (2) ((at_ qs p.1))).toSF))::(19, .s ((UF.eq r).toSF))::(20, .s ((UF.eq (.int .i64 (((p.1:Nat):Int)))).toSF))::(21, .s ((UF.eq (.int .i64 (((p.1+1:Nat):Int)))).toSF))::(22, .s ((UF.eq r).toSF))::(23, .s ((UF.eq (.int .i64 ((((pvs (2) (qs)).length:Nat):Int)))).toSF))::(24, .s ((UF.eq (.int .i64 (((((p.1+1) % qs.length):Nat):Int)))).toSF))::(25, .s (SF.ptr (CU.agg (fPV (2) ((at_ qs ((p.1+1) % qs.length))))).cf))::(26, .s ((fPV (2) ((at_ qs ((p.1+1) % qs.length)))).toSF))::(27, .s (SF.row 6 (pvs 19 (bothK ps qs (p.1+1))))):: []) hmix (s.keepK _ (fmz ⟨mz2,fmz ⟨.head _,fmz ⟨mz1,fmz ⟨mz3,fnz⟩⟩⟩⟩)) (by kernel_rfl)
   (oc ok_move<|oc ok_move<|oc ok_move<|oc (ok_indexB (z:=6) (Cs:=pvs (2) (qs)) (i:=p.1) (C:=CU.agg (fPV (2) ((at_ qs p.1)))) (by kernel_rfl) (pvs_get hk) (fun v W hb h=>(by rw [show _=r from h];exact (SF.row 6 (pvs (2) (qs))).st _ _ _ hrw (s.up hb))) iiz)<|oc (ok_ldW (f:=fPV (2) ((at_ qs p.1))) 6 (by kernel_rfl) (hz:=pt_len _ _))<|oc ok_move<|oc ok_move<|oc (ok_addI .i64 (((p.1:Nat):Int)) (1) (((p.1+1:Nat):Int)) iiz iiz (wrap64 _ _ (by omega) (by omega)))<|oc ok_move<|oc (ok_lenB (z:=6) (Cs:=pvs (2) (qs)) (by kernel_rfl) (fun v W hb h=>(by rw [show _=r from h];exact (SF.row 6 (pvs (2) (qs))).st _ _ _ hrw (s.up hb))) (fun _=>rfl))<|oc (ok_remI .i64 (((p.1+1:Nat):Int)) ((((pvs (2) (qs)).length:Nat):Int)) ((((p.1+1) % qs.length):Nat):Int) iiz iiz (by omega) (by rw [hlz];exact rem_nat _ _))<|oc (ok_indexB (z:=6) (Cs:=pvs (2) (qs)) (i:=((p.1+1) % qs.length)) (C:=CU.agg (fPV (2) ((at_ qs ((p.1+1) % qs.length))))) (by kernel_rfl) (pvs_get hj) (fun v W hb h=>(by rw [show _=r from h];exact (SF.row 6 (pvs (2) (qs))).st _ _ _ hrw (s.up hb))) iiz)<|oc (ok_ldW (f:=fPV (2) ((at_ qs ((p.1+1) % qs.length)))) 6 (by kernel_rfl) (hz:=pt_len _ _))<|oc (ok_call3 wide_wide en_68 (fun u0 u1 u2 W hb (h0:u0=p.2) (h1:(fPV (2) ((at_ qs p.1))).p u1 W) (h2:(fPV (2) ((at_ qs ((p.1+1) % qs.length)))).p u2 W)=>(cut_p (a_:=(at_ qs p.1)) (b_:=(at_ qs ((p.1+1) % qs.length))) (ps:=bothK ps qs p.1) (by rw [show _=p.2 from h0];exact (SF.row 6 (pvs (19) (bothK ps qs p.1))).st _ _ _ hI.2 (s.up hb)) h1 h2 (fun x hx=>(hpb (p.1+1) hk).2 x hx) (by have:=both_small hn8 hn8' (Nat.le_of_lt hk);omega)).mono (Ret.to newRow_row)))<|obs_nil) fun Q' hQ a w5 s hr=> ?_
  obtain ⟨v27,e27⟩: ∃v,a.tmps.getD 27 undef=v:=⟨_,rfl⟩
  have hv27:(SF.row 6 (pvs 19 (bothK ps qs (p.1+1)))).p v27 w5:=e27▸(hr (_,_) mz13)
  replace s:=s.learn 27 v27 e27
  replace s:=s.keepK [(27, .u (UF.eq (v27))),(11, .u (UF.eq (.bool (decide (((p.1:Nat):Int)<(((pvs (2) (qs)).length:Nat):Int)))))),(1, .u (UF.eq r)),(6, .u (UF.eq (.int .i64 (((p.1:Nat):Int)))))] (fmz ⟨.head _,fmz ⟨mz1,fmz ⟨mz2,fmz ⟨mz3,fnz⟩⟩⟩⟩)
  have s1:=s0.back s rfl
  replace s:=s.reb rfl [(27, .u (UF.eq (v27))),(11, .u (UF.eq (.bool (decide (((p.1:Nat):Int)<(((pvs (2) (qs)).length:Nat):Int)))))),(1, .u (UF.eq r)),(6, .u (UF.eq (.int .i64 (((p.1:Nat):Int)))))] (fmz ⟨.inl (.head _),fmz ⟨.inl mz1,fmz ⟨.inl mz2,fmz ⟨.inl mz3,fnz⟩⟩⟩⟩)
  refine t_set (UF.eq v27) rfl s (by kernel_rfl) iiz fun a w s=> ?_
  refine tail_end rfl (hQ _ _ ?_)
  refine region_goS 2 ((12, .s ((UF.eq (.int .i64 (((p.1:Nat):Int)))).toSF))::(13, .u (UF.eq (.int .i64 (((p.1+1:Nat):Int))))):: []) s (by kernel_rfl)
   (oc ok_move<|oc (ok_addI .i64 (((p.1:Nat):Int)) (1) (((p.1+1:Nat):Int)) iiz iiz (wrap64 _ _ (by omega) (by omega)))<|obs_nil) fun a w6 s=> ?_
  replace s:=s.drop [6]
  refine t_set (UF.eq (.int .i64 (((p.1+1:Nat):Int)))) rfl s (by kernel_rfl) iiz fun a w s=> ?_
  refine tail_end rfl ?_
  have hbw:=s.below
  replace s:=s1.back (s.keepK [(6, .u (UF.eq (.int .i64 (((p.1+1:Nat):Int))))),(13, .u (UF.eq (.int .i64 (((p.1+1:Nat):Int))))),(5, .u (UF.eq (v27))),(27, .u (UF.eq (v27))),(11, .u (UF.eq (.bool (decide (((p.1:Nat):Int)<(((pvs (2) (qs)).length:Nat):Int)))))),(1, .u (UF.eq r))] (fmz ⟨.head _,fmz ⟨mz1,fmz ⟨mz2,fmz ⟨mz3,fmz ⟨mz4,fmz ⟨mz5,fnz⟩⟩⟩⟩⟩⟩)) rfl
  exact ⟨(p.1+1,v27),(by show qs.length - (p.1+1)<qs.length - p.1;omega),⟨hk,(SF.row 6 _).st _ _ _ hv27 hbw⟩,s.keepK _ (fmz ⟨mz5,fmz ⟨mz2,fmz ⟨.head _,fnz⟩⟩⟩)⟩
 ·have hk:p.1=qs.length:=by have h7:=of_decide_eq_false e;have h8:=hI.1;simp at h7;omega
  refine wpIn_exit ?_
  refine wpIn_seq ?_
  refine region_go 2 ((28, .s ((UF.eq p.2).toSF))::(4, .u (UF.eq p.2)):: []) hmix s (by kernel_rfl)
   (oc ok_move<|oc (ok_assign)<|obs_nil) fun a w7 s=> ?_
  refine tail_end rfl ?_
  refine wpIn_ret ?_
  exact StS.resN s s0.below rfl (by rw [s.val (.head _)];have:=(SF.row 6 _).st _ _ _ hI.2 s.below;rw [hk] at this;exact this)
end Go.Proofs.Wd

namespace Go.Proofs.Wd
set_option maxRecDepth 100000
set_option maxHeartbeats 1000000
open Go.RowKit Lb
section
variable {F:Fence} {m:Nat} {P:Program} {w0:World} {ops:Array Oper} {G:Nat→SF} {d:Tmp} {ty:TypeId} {pos:String} {aft:Array Edge}
theorem ok_maxI {x y:Operand} {ats:Array TypeId} (u v:Int) (hx: ∀q W,(fct G x).p q W→q= .int .i64 u) (hy: ∀q W,(fct G y).p q W→q= .int .i64 v) (hd: ∀W,(G d).p (.int .i64 (max u v)) W:=by exact fun _=>rfl):GdOK F m P w0 ops G ⟨some d, .call ⟨.builtin .max,#[x,y],ats⟩,ty,pos,aft,none⟩:=by
 intro b W K Q hb hr hK
 have e1:=hx _ _ (fct_holds hr (x:=x) (by simp [Op.operands,Call.operands]))
 have e2:=hy _ _ (fct_holds hr (x:=y) (by simp [Op.operands,Call.operands]))
 refine ⟨fun f hf=>(by
  unfold Oper.about at hf
  simp [resolve,go_sem] at hf), ?_⟩
 rw [Oper.semAt_eq _ _ _ (fun _ e=>by cases e)]
 have:(execOp b.eval ⟨some d, .call ⟨.builtin .max,#[x,y],ats⟩,ty,pos,aft,none⟩).run P W= .ok (.value (.int .i64 (max u v))) W:=by
  have h:max u v=if u<v then v else u:=by split<;>omega
  simp [execOp,resolve,invoke,builtin,e1,e2,Builtin.max_,Builtin.max2,h]
 rw [this]
 exact hK _ _ (fun d' e'=>by cases e';exact hd _) (Below.refl _ _)
end
theorem sumK_qb {l:List V2} (h: ∀p,p∈l→QB p.1 19∧QB p.2 19): ∀k,k≤l.length→QB (sumK l k).1 (20*k+1)∧QB (sumK l k).2 (20*k+1)
 |0,_=>⟨QB.zero (by decide),QB.zero (by decide)⟩
 |k+1,hk=>by
  have ih:=sumK_qb h k (by omega)
  have hq:=h _ (at_mem (by omega:k<l.length))
  exact ⟨(ih.1.add hq.1).mono (by omega),(ih.2.add hq.2).mono (by omega)⟩
theorem with_apart {a b:List V2} (ha:Conv a) (hb:Conv b) (h:polysB a b=true) {p:V2} (h1:withB a p=true):withB b p=false:=by
 cases e:withB b p with
 |false=>rfl
 |true=>exact (apart_no ha hb h (withB_t.1 h1).1 (withB_t.1 e).1).elim
theorem flat_both {a b:List V2} (ha:Conv a) (hb:Conv b) (h:polysB a b=true):flatB (bothK a b b.length)=true:=
 flat_yes fun i h2 hi=>by
  rw [both_flat ha hb h (at_mem (by omega:0<(bothK a b b.length).length)) (at_mem (by omega:i - 1<(bothK a b b.length).length)) (at_mem hi)]
  rfl
theorem mid_cast (l:List V2):((sumK l l.length).1*(((1:Int):Rat) / (((l.length:Nat):Int):Rat)),(sumK l l.length).2*(((1:Int):Rat) / (((l.length:Nat):Int):Rat)))=midV l (1 / (l.length:Rat)):=rfl
theorem points_p {A B:List PX} {y:PX} {W:World} {l r u:Value} (hl0:(SF.row 6 (pxs A)).p l W) (hr0:(SF.row 6 (pxs B)).p r W) (hy:(PX.u y).p u W) (hT:Tab W):Calls Tryz.prog 4 #[l,r,u] W (Ret W (fB true).toSF):=by
 refine run_st [(UF.eq l).toSF,(UF.eq r).toSF,(PX.u y).toSF] Tryz.func4 rfl (by kernel_rfl) ⟨rfl,rfl,hy,trivial⟩ fun a s=> ?_
 replace s:=s.renew [(0, .u (UF.eq l)),(1, .u (UF.eq r)),(2, .u (PX.u y))] (fmz ⟨.inr ⟨_,rfl, .head _⟩,fmz ⟨.inr ⟨_,rfl,mz1⟩,fmz ⟨.inr ⟨_,rfl,mz2⟩,fnz⟩⟩⟩)
 refine wpIn_seq ?_
 refine region_go 0 [] hmix s (by kernel_rfl)
  obs_nil fun a w1 s=> ?_
 refine t_box (PX.cu y) rfl s (by kernel_rfl) (fun v W h=>pt_box h) fun b5 a w s=> ?_
 refine t_set (UF.eq (.bool false)) rfl s (by kernel_rfl) iiz fun a w s=> ?_
 refine tail_end rfl ?_
 refine wpIn_seq ?_
 refine wpIn_seq ?_
 refine region_go 29 ((13, .s ((UF.eq l).toSF))::(14, .s ((UF.eq (.int .i64 ((((pxs A).length:Nat):Int)))).toSF))::(15, .s ((UF.eq r).toSF))::(16, .s ((UF.eq (.int .i64 ((((pxs B).length:Nat):Int)))).toSF))::(17, .s ((UF.eq (.int .i64 (max ((((pxs A).length:Nat):Int)) ((((pxs B).length:Nat):Int))))).toSF))::(18, .s ((UF.eq (.bool (decide (max ((((pxs A).length:Nat):Int)) ((((pxs B).length:Nat):Int))>6)))).toSF))::(19, .s ((UF.eq (.bool (decide (max ((((pxs A).length:Nat):Int)) ((((pxs B).length:Nat):Int))>6)))).toSF))::(20, .s (SF.imp ((decide (max ((((pxs A).length:Nat):Int)) ((((pxs B).length:Nat):Int))>6))=false) ((UF.eq l).toSF)))::(21, .s (SF.imp ((decide (max ((((pxs A).length:Nat):Int)) ((((pxs B).length:Nat):Int))>6))=false) ((UF.eq (.bool (gPt A))).toSF)))::(22, .s ((UF.eq (.bool ((decide (max ((((pxs A).length:Nat):Int)) ((((pxs B).length:Nat):Int))>6))||(gPt A)))).toSF))::(23, .s ((UF.eq (.bool ((decide (max ((((pxs A).length:Nat):Int)) ((((pxs B).length:Nat):Int))>6))||(gPt A)))).toSF))::(24, .s (SF.imp (((decide (max ((((pxs A).length:Nat):Int)) ((((pxs B).length:Nat):Int))>6))||(gPt A))=false) ((UF.eq r).toSF)))::(25, .s (SF.imp (((decide (max ((((pxs A).length:Nat):Int)) ((((pxs B).length:Nat):Int))>6))||(gPt A))=false) ((UF.eq (.bool (gPt B))).toSF)))::(26, .s ((UF.eq (.bool (((decide (max ((((pxs A).length:Nat):Int)) ((((pxs B).length:Nat):Int))>6))||(gPt A))||(gPt B)))).toSF))::(27, .s ((UF.eq (.bool (((decide (max ((((pxs A).length:Nat):Int)) ((((pxs B).length:Nat):Int))>6))||(gPt A))||(gPt B)))).toSF))::(28, .s (SF.imp ((((decide (max ((((pxs A).length:Nat):Int)) ((((pxs B).length:Nat):Int))>6))||(gPt A))||(gPt B))=false) ((PX.u y).toSF)))::(29, .s (SF.imp ((((decide (max ((((pxs A).length:Nat):Int)) ((((pxs B).length:Nat):Int))>6))||(gPt A))||(gPt B))=false) (SF.row 6 (pxs [y]))))::(30, .s (SF.imp ((((decide (max ((((pxs A).length:Nat):Int)) ((((pxs B).length:Nat):Int))>6))||(gPt A))||(gPt B))=false) ((UF.eq (.bool (gPt [y]))).toSF)))::(31, .s ((UF.eq (.bool ((((decide (max ((((pxs A).length:Nat):Int)) ((((pxs B).length:Nat):Int))>6))||(gPt A))||(gPt B))||(gPt [y])))).toSF))::(32, .s ((UF.eq (.bool ((((decide (max ((((pxs A).length:Nat):Int)) ((((pxs B).length:Nat):Int))>6))||(gPt A))||(gPt B))||(gPt [y])))).toSF))::(33, .s (SF.imp (((((decide (max ((((pxs A).length:Nat):Int)) ((((pxs B).length:Nat):Int))>6))||(gPt A))||(gPt B))||(gPt [y]))=false) ((UF.eq l).toSF)))::(34, .s (SF.imp (((((decide (max ((((pxs A).length:Nat):Int)) ((((pxs B).length:Nat):Int))>6))||(gPt A))||(gPt B))||(gPt [y]))=false) ((UF.eq (.bool (convB (pps A)))).toSF)))::(35, .s (SF.imp (((((decide (max ((((pxs A).length:Nat):Int)) ((((pxs B).length:Nat):Int))>6))||(gPt A))||(gPt B))||(gPt [y]))=false) ((UF.eq (.bool (!(convB (pps A))))).toSF)))::(36, .s ((UF.eq (.bool (((((decide (max ((((pxs A).length:Nat):Int)) ((((pxs B).length:Nat):Int))>6))||(gPt A))||(gPt B))||(gPt [y]))||(!(convB (pps A)))))).toSF))::(37, .s ((UF.eq (.bool (((((decide (max ((((pxs A).length:Nat):Int)) ((((pxs B).length:Nat):Int))>6))||(gPt A))||(gPt B))||(gPt [y]))||(!(convB (pps A)))))).toSF))::(38, .s (SF.imp ((((((decide (max ((((pxs A).length:Nat):Int)) ((((pxs B).length:Nat):Int))>6))||(gPt A))||(gPt B))||(gPt [y]))||(!(convB (pps A))))=false) ((UF.eq r).toSF)))::(39, .s (SF.imp ((((((decide (max ((((pxs A).length:Nat):Int)) ((((pxs B).length:Nat):Int))>6))||(gPt A))||(gPt B))||(gPt [y]))||(!(convB (pps A))))=false) ((UF.eq (.bool (convB (pps B)))).toSF)))::(40, .s (SF.imp ((((((decide (max ((((pxs A).length:Nat):Int)) ((((pxs B).length:Nat):Int))>6))||(gPt A))||(gPt B))||(gPt [y]))||(!(convB (pps A))))=false) ((UF.eq (.bool (!(convB (pps B))))).toSF)))::(41, .u (UF.eq (.bool ((((((decide (max ((((pxs A).length:Nat):Int)) ((((pxs B).length:Nat):Int))>6))||(gPt A))||(gPt B))||(gPt [y]))||(!(convB (pps A))))||(!(convB (pps B))))))):: []) hmix s (by kernel_rfl)
  (oc ok_move<|oc (ok_lenB (z:=6) (Cs:=pxs A) (by kernel_rfl) (fun v W hb h=>(by rw [show _=l from h];exact (SF.row 6 (pxs A)).st _ _ _ hl0 (s.up hb))) (fun _=>rfl))<|oc ok_move<|oc (ok_lenB (z:=6) (Cs:=pxs B) (by kernel_rfl) (fun v W hb h=>(by rw [show _=r from h];exact (SF.row 6 (pxs B)).st _ _ _ hr0 (s.up hb))) (fun _=>rfl))<|oc (ok_maxI ((((pxs A).length:Nat):Int)) ((((pxs B).length:Nat):Int)) iiz iiz)<|oc (ok_cmpI .i64 (max ((((pxs A).length:Nat):Int)) ((((pxs B).length:Nat):Int))) (6) (decide (max ((((pxs A).length:Nat):Int)) ((((pxs B).length:Nat):Int))>6)) iiz iiz rfl rfl)<|oc ok_move<|oc (ok_guard 19 (decide (max ((((pxs A).length:Nat):Int)) ((((pxs B).length:Nat):Int))>6)) (by kernel_rfl) iiz (fun e=>gd_imp [] ((UF.eq l).toSF) (fnz) (fun _ _ h _=>h) (by kernel_rfl) (ok_move)) (fun e W h=>absurd h e))<|oc (ok_guard 19 (decide (max ((((pxs A).length:Nat):Int)) ((((pxs B).length:Nat):Int))>6)) (by kernel_rfl) iiz (fun e=>gd_imp [(20,(UF.eq l).toSF)] ((UF.eq (.bool (gPt A))).toSF) (fmz ⟨fun v W h=>imp_app (c:=(decide (max ((((pxs A).length:Nat):Int)) ((((pxs B).length:Nat):Int))>6))=false) (f:=(UF.eq l).toSF) e h,fnz⟩) (fun _ _ h _=>h) (by kernel_rfl) (ok_call1 wide_wide en_11 (fun u0 W hb (h0:u0=l)=>r18great_p (L:=A) (by rw [show _=l from h0];exact (SF.row 6 (pxs A)).st _ _ _ hl0 (s.up hb))))) (fun e W h=>absurd h e))<|oc (ok_pick (decide (max ((((pxs A).length:Nat):Int)) ((((pxs B).length:Nat):Int))>6)) iiz (fun e v W h=>pick_or h e) (fun e v W h=>pick_or' (imp_app e h) e))<|oc ok_move<|oc (ok_guard 23 ((decide (max ((((pxs A).length:Nat):Int)) ((((pxs B).length:Nat):Int))>6))||(gPt A)) (by kernel_rfl) iiz (fun e=>gd_imp [] ((UF.eq r).toSF) (fnz) (fun _ _ h _=>h) (by kernel_rfl) (ok_move)) (fun e W h=>absurd h e))<|oc (ok_guard 23 ((decide (max ((((pxs A).length:Nat):Int)) ((((pxs B).length:Nat):Int))>6))||(gPt A)) (by kernel_rfl) iiz (fun e=>gd_imp [(24,(UF.eq r).toSF)] ((UF.eq (.bool (gPt B))).toSF) (fmz ⟨fun v W h=>imp_app (c:=((decide (max ((((pxs A).length:Nat):Int)) ((((pxs B).length:Nat):Int))>6))||(gPt A))=false) (f:=(UF.eq r).toSF) e h,fnz⟩) (fun _ _ h _=>h) (by kernel_rfl) (ok_call1 wide_wide en_11 (fun u0 W hb (h0:u0=r)=>r18great_p (L:=B) (by rw [show _=r from h0];exact (SF.row 6 (pxs B)).st _ _ _ hr0 (s.up hb))))) (fun e W h=>absurd h e))<|oc (ok_pick ((decide (max ((((pxs A).length:Nat):Int)) ((((pxs B).length:Nat):Int))>6))||(gPt A)) iiz (fun e v W h=>pick_or h e) (fun e v W h=>pick_or' (imp_app e h) e))<|oc ok_move<|oc (ok_guard 27 (((decide (max ((((pxs A).length:Nat):Int)) ((((pxs B).length:Nat):Int))>6))||(gPt A))||(gPt B)) (by kernel_rfl) iiz (fun e=>gd_imp [] ((PX.u y).toSF) (fnz) (fun _ _ h _=>h) (by kernel_rfl) (ok_ldW (f:=PX.u y) 6 (by kernel_rfl) (hz:=pt_len _ _))) (fun e W h=>absurd h e))<|oc (ok_guard 27 (((decide (max ((((pxs A).length:Nat):Int)) ((((pxs B).length:Nat):Int))>6))||(gPt A))||(gPt B)) (by kernel_rfl) iiz (fun e=>gd_imp [(28,(PX.u y).toSF)] (SF.row 6 (pxs [y])) (fmz ⟨fun v W h=>imp_app (c:=(((decide (max ((((pxs A).length:Nat):Int)) ((((pxs B).length:Nat):Int))>6))||(gPt A))||(gPt B))=false) (f:=(PX.u y).toSF) e h,fnz⟩) (fun _ _ h _=>h) (by kernel_rfl) (ok_slice1 (fun u W (hu:(PX.u y).p u W)=>sl_pt1 hu))) (fun e W h=>absurd h e))<|oc (ok_guard 27 (((decide (max ((((pxs A).length:Nat):Int)) ((((pxs B).length:Nat):Int))>6))||(gPt A))||(gPt B)) (by kernel_rfl) iiz (fun e=>gd_imp [(29,SF.row 6 (pxs [y]))] ((UF.eq (.bool (gPt [y]))).toSF) (fmz ⟨fun v W h=>imp_app (c:=(((decide (max ((((pxs A).length:Nat):Int)) ((((pxs B).length:Nat):Int))>6))||(gPt A))||(gPt B))=false) (f:=SF.row 6 (pxs [y])) e h,fnz⟩) (fun _ _ h _=>h) (by kernel_rfl) (ok_call1 wide_wide en_11 (fun u0 W hb (h0:(SF.row 6 (pxs [y])).p u0 W)=>r18great_p (L:= [y]) h0))) (fun e W h=>absurd h e))<|oc (ok_pick (((decide (max ((((pxs A).length:Nat):Int)) ((((pxs B).length:Nat):Int))>6))||(gPt A))||(gPt B)) iiz (fun e v W h=>pick_or h e) (fun e v W h=>pick_or' (imp_app e h) e))<|oc ok_move<|oc (ok_guard 32 ((((decide (max ((((pxs A).length:Nat):Int)) ((((pxs B).length:Nat):Int))>6))||(gPt A))||(gPt B))||(gPt [y])) (by kernel_rfl) iiz (fun e=>gd_imp [] ((UF.eq l).toSF) (fnz) (fun _ _ h _=>h) (by kernel_rfl) (ok_move)) (fun e W h=>absurd h e))<|oc (ok_guard 32 ((((decide (max ((((pxs A).length:Nat):Int)) ((((pxs B).length:Nat):Int))>6))||(gPt A))||(gPt B))||(gPt [y])) (by kernel_rfl) iiz (fun e=>gd_imp [(33,(UF.eq l).toSF)] ((UF.eq (.bool (convB (pps A)))).toSF) (fmz ⟨fun v W h=>imp_app (c:=((((decide (max ((((pxs A).length:Nat):Int)) ((((pxs B).length:Nat):Int))>6))||(gPt A))||(gPt B))||(gPt [y]))=false) (f:=(UF.eq l).toSF) e h,fnz⟩) (fun _ _ h _=>h) (by kernel_rfl) (ok_call1 wide_wide en_21 (fun u0 W hb (h0:u0=l)=>r18conv_p (m:=2) (ps:=pps A) (pxs_pvs (by simp only [Bool.or_eq_false_iff] at e;exact e.1.1.2) _ _ (by rw [show _=l from h0];exact (SF.row 6 (pxs A)).st _ _ _ hl0 (s.up hb))) (by decide) (by decide) (by have:=(gPt_f (L:=A) (by simp only [Bool.or_eq_false_iff] at e;exact e.1.1.2)).1;simp;omega)))) (fun e W h=>absurd h e))<|oc (ok_guard 32 ((((decide (max ((((pxs A).length:Nat):Int)) ((((pxs B).length:Nat):Int))>6))||(gPt A))||(gPt B))||(gPt [y])) (by kernel_rfl) iiz (fun e=>gd_imp [(34,(UF.eq (.bool (convB (pps A)))).toSF)] ((UF.eq (.bool (!(convB (pps A))))).toSF) (fmz ⟨fun v W h=>imp_app (c:=((((decide (max ((((pxs A).length:Nat):Int)) ((((pxs B).length:Nat):Int))>6))||(gPt A))||(gPt B))||(gPt [y]))=false) (f:=(UF.eq (.bool (convB (pps A)))).toSF) e h,fnz⟩) (fun _ _ h _=>h) (by kernel_rfl) (ok_not (convB (pps A)) iiz (fun _=>rfl))) (fun e W h=>absurd h e))<|oc (ok_pick ((((decide (max ((((pxs A).length:Nat):Int)) ((((pxs B).length:Nat):Int))>6))||(gPt A))||(gPt B))||(gPt [y])) iiz (fun e v W h=>pick_or h e) (fun e v W h=>pick_or' (imp_app e h) e))<|oc ok_move<|oc (ok_guard 37 (((((decide (max ((((pxs A).length:Nat):Int)) ((((pxs B).length:Nat):Int))>6))||(gPt A))||(gPt B))||(gPt [y]))||(!(convB (pps A)))) (by kernel_rfl) iiz (fun e=>gd_imp [] ((UF.eq r).toSF) (fnz) (fun _ _ h _=>h) (by kernel_rfl) (ok_move)) (fun e W h=>absurd h e))<|oc (ok_guard 37 (((((decide (max ((((pxs A).length:Nat):Int)) ((((pxs B).length:Nat):Int))>6))||(gPt A))||(gPt B))||(gPt [y]))||(!(convB (pps A)))) (by kernel_rfl) iiz (fun e=>gd_imp [(38,(UF.eq r).toSF)] ((UF.eq (.bool (convB (pps B)))).toSF) (fmz ⟨fun v W h=>imp_app (c:=(((((decide (max ((((pxs A).length:Nat):Int)) ((((pxs B).length:Nat):Int))>6))||(gPt A))||(gPt B))||(gPt [y]))||(!(convB (pps A))))=false) (f:=(UF.eq r).toSF) e h,fnz⟩) (fun _ _ h _=>h) (by kernel_rfl) (ok_call1 wide_wide en_21 (fun u0 W hb (h0:u0=r)=>r18conv_p (m:=2) (ps:=pps B) (pxs_pvs (by simp only [Bool.or_eq_false_iff] at e;exact e.1.1.2) _ _ (by rw [show _=r from h0];exact (SF.row 6 (pxs B)).st _ _ _ hr0 (s.up hb))) (by decide) (by decide) (by have:=(gPt_f (L:=B) (by simp only [Bool.or_eq_false_iff] at e;exact e.1.1.2)).1;simp;omega)))) (fun e W h=>absurd h e))<|oc (ok_guard 37 (((((decide (max ((((pxs A).length:Nat):Int)) ((((pxs B).length:Nat):Int))>6))||(gPt A))||(gPt B))||(gPt [y]))||(!(convB (pps A)))) (by kernel_rfl) iiz (fun e=>gd_imp [(39,(UF.eq (.bool (convB (pps B)))).toSF)] ((UF.eq (.bool (!(convB (pps B))))).toSF) (fmz ⟨fun v W h=>imp_app (c:=(((((decide (max ((((pxs A).length:Nat):Int)) ((((pxs B).length:Nat):Int))>6))||(gPt A))||(gPt B))||(gPt [y]))||(!(convB (pps A))))=false) (f:=(UF.eq (.bool (convB (pps B)))).toSF) e h,fnz⟩) (fun _ _ h _=>h) (by kernel_rfl) (ok_not (convB (pps B)) iiz (fun _=>rfl))) (fun e W h=>absurd h e))<|oc (ok_pick (((((decide (max ((((pxs A).length:Nat):Int)) ((((pxs B).length:Nat):Int))>6))||(gPt A))||(gPt B))||(gPt [y]))||(!(convB (pps A)))) iiz (fun e v W h=>pick_or h e) (fun e v W h=>pick_or' (imp_app e h) e))<|obs_nil) fun a w2 s=> ?_
 refine tail_end rfl ?_
 refine StS.cond s ((((((decide (max ((((pxs A).length:Nat):Int)) ((((pxs B).length:Nat):Int))>6))||(gPt A))||(gPt B))||(gPt [y]))||(!(convB (pps A))))||(!(convB (pps B)))) iiz (fun e=> ?_) (fun e=> ?_)
 ·refine wpIn_seq ?_
  replace s:=s.drop [6]
  refine region_go 2 ((42, .s ((UF.eq (.bool true)).toSF))::(6, .u (UF.eq (.bool true))):: []) hmix s (by kernel_rfl)
   (oc (ok_call0 wide_wide en_13 (fun W hb=>wakes18 (hT.below (s.up hb))))<|oc (ok_assign)<|obs_nil) fun a w3 s=> ?_
  refine tail_end rfl ?_
  refine wpIn_ret ?_
  exact StS.res1 s (t:=6) rfl iiz
 ·simp only [Bool.or_eq_false_iff] at e
  obtain ⟨⟨⟨⟨⟨em,eA⟩,eB⟩,ey⟩,ecA⟩,ecB⟩:=e
  have hcA:Conv (pps A):=of_convB (by simpa using ecA)
  have hcB:Conv (pps B):=of_convB (by simpa using ecB)
  have hA:=pxs_pvs eA l W hl0
  have hB_:=pxs_pvs eB r W hr0
  have hy9:=(gPt_f ey).2 y (by simp)
  have hm6:=of_decide_eq_false em
  simp only [List.length_map] at hm6
  have hn8A:(pps A).length≤6:=by simp;omega
  have hn8B:(pps B).length≤6:=by simp;omega
  have hnA:(pps A).length≤1000000:=by omega
  have hnB:(pps B).length≤1000000:=by omega
  replace hn8A:(pps A).length≤6∧(pps A).length≤8:=⟨hn8A,by omega⟩
  replace hn8B:(pps B).length≤6∧(pps B).length≤8:=⟨hn8B,by omega⟩
  obtain ⟨h6A,hn8A⟩:=hn8A
  obtain ⟨h6B,hn8B⟩:=hn8B
  have hpb:=(both_pb (m:=2) (by decide) hcA hcB (pvs_qb (by decide) hA) (pvs_qb (by decide) hB_) (pps B).length (Nat.le_refl _)).2
  have hsm:=both_small hn8A hn8B (Nat.le_refl (pps B).length)
  obtain ⟨L,hL⟩: ∃L,L=bothK (pps A) (pps B) (pps B).length:=⟨_,rfl⟩
  have hnL:L.length≤1000000:=by rw [hL];omega
  refine wpIn_skip ?_
  refine wpIn_seq ?_
  refine region_go 4 ((43, .s ((UF.eq l).toSF))::(44, .s ((UF.eq r).toSF))::(45, .s ((UF.eq (.bool (polysB (pps A) (pps B)))).toSF))::(7, .u (UF.eq (.bool (polysB (pps A) (pps B))))):: []) hmix s (by kernel_rfl)
   (oc ok_move<|oc ok_move<|oc (ok_call2 wide_wide en_16 (fun u0 u1 W hb (h0:u0=l) (h1:u1=r)=>apolys_p (m:=2) (ps:=pps A) (qs:=pps B) (by rw [show _=l from h0];exact (SF.row 6 (pvs (2) (pps A))).st _ _ _ hA (s.up hb)) (by rw [show _=r from h1];exact (SF.row 6 (pvs (2) (pps B))).st _ _ _ hB_ (s.up hb)) (by decide) (by decide) hnA hnB (hT.below (s.up hb))))<|oc (ok_assign)<|obs_nil) fun a w4 s=> ?_
  refine tail_end rfl ?_
  refine wpIn_seq ?_
  refine wpIn_seq ?_
  rcases Bool.eq_false_or_eq_true (polysB (pps A) (pps B)) with eP|eP
  ·rw [eP] at s
   refine region_go 11 ((46, .s ((UF.eq (.bool true)).toSF))::(47, .s ((UF.eq (.bool true)).toSF))::(48, .s ((UF.eq l).toSF))::(49, .s ((fPV (2) (y.p)).toSF))::(50, .s ((UF.eq (.bool (withB (pps A) y.p))).toSF))::(51, .s ((UF.eq (.bool (withB (pps A) y.p))).toSF))::(52, .s ((UF.eq (.bool (withB (pps A) y.p))).toSF))::(53, .s (SF.imp ((withB (pps A) y.p)=true) ((UF.eq r).toSF)))::(54, .s (SF.imp ((withB (pps A) y.p)=true) ((fPV (2) (y.p)).toSF)))::(55, .s (SF.imp ((withB (pps A) y.p)=true) ((UF.eq (.bool false)).toSF)))::(56, .u (UF.eq (.bool ((withB (pps A) y.p)&&false)))):: []) hmix s (by kernel_rfl)
    (oc ok_move<|oc ok_move<|oc (ok_guard 47 true (by kernel_rfl) iiz (fun _=>ok_move) (fun e=>absurd rfl e))<|oc (ok_guard 47 true (by kernel_rfl) iiz (fun _=>ok_loadA (C:=(PX.cu y).cf) 6 (by kernel_rfl) (fun _ _ h=>h.2) (px_whole hy9)) (fun e=>absurd rfl e))<|oc (ok_guard 47 true (by kernel_rfl) iiz (fun _=>ok_call2 wide_wide en_22 (fun u0 u1 W hb (h0:u0=l) (h1:(fPV (2) (y.p)).p u1 W)=>r18within_p (m:=2) (M:=2) (ps:=pps A) (p:=y.p) (by rw [show _=l from h0];exact (SF.row 6 (pvs (2) (pps A))).st _ _ _ hA (s.up hb)) h1 (by decide) (by decide) (by decide) hnA)) (fun e=>absurd rfl e))<|oc (ok_pick true iiz (fun _ _ _ h=>h) (fun e=>by cases e))<|oc ok_move<|oc (ok_guard 52 (withB (pps A) y.p) (by kernel_rfl) iiz (fun e=>gd_imp [] ((UF.eq r).toSF) (fnz) (fun _ _ h _=>h) (by kernel_rfl) (ok_move)) (fun e W h=>absurd h e))<|oc (ok_guard 52 (withB (pps A) y.p) (by kernel_rfl) iiz (fun e=>gd_imp [] ((fPV (2) (y.p)).toSF) (fnz) (fun _ _ h _=>h) (by kernel_rfl) (ok_loadA (C:=(PX.cu y).cf) 6 (by kernel_rfl) (fun _ _ h=>h.2) (px_whole hy9))) (fun e W h=>absurd h e))<|oc (ok_guard 52 (withB (pps A) y.p) (by kernel_rfl) iiz (fun e=>gd_imp [(53,(UF.eq r).toSF),(54,(fPV (2) (y.p)).toSF)] ((UF.eq (.bool false)).toSF) (fmz ⟨fun v W h=>imp_app (c:=(withB (pps A) y.p)=true) (f:=(UF.eq r).toSF) e h,fmz ⟨fun v W h=>imp_app (c:=(withB (pps A) y.p)=true) (f:=(fPV (2) (y.p)).toSF) e h,fnz⟩⟩) (fun _ _ h _=>h) (by kernel_rfl) (ok_call2 wide_wide en_22 (fun u0 u1 W hb (h0:u0=r) (h1:(fPV (2) (y.p)).p u1 W)=>(r18within_p (m:=2) (M:=2) (ps:=pps B) (p:=y.p) (by rw [show _=r from h0];exact (SF.row 6 (pvs (2) (pps B))).st _ _ _ hB_ (s.up hb)) h1 (by decide) (by decide) (by decide) hnB).mono (Ret.to (fun v W h=>by rw [with_apart hcA hcB eP e] at h;exact h))))) (fun e W h=>absurd h e))<|oc (ok_pick (withB (pps A) y.p) iiz (fun e v W h=>pick_and (imp_app e h) e) (fun e v W h=>pick_and' h e))<|obs_nil) fun a w5 s=> ?_
   refine tail_end rfl ?_
   refine StS.cond s ((withB (pps A) y.p)&&false) iiz (fun e=>absurd e (by rw [Bool.and_false];decide)) (fun _=> ?_)
   refine wpIn_skip ?_
   refine wpIn_seq ?_
   refine region_goN 3 ((57, .s ((UF.eq l).toSF))::(58, .s ((UF.eq r).toSF))::(59, .s (SF.row 6 (pvs 19 L))):: []) hmix s (by kernel_rfl)
    (oc ok_move<|oc ok_move<|oc (ok_call2 wide_wide en_23 (fun u0 u1 W hb (h0:u0=l) (h1:u1=r)=>(both_p (ps:=pps A) (qs:=pps B) (by rw [show _=l from h0];exact (SF.row 6 (pvs (2) (pps A))).st _ _ _ hA (s.up hb)) (by rw [show _=r from h1];exact (SF.row 6 (pvs (2) (pps B))).st _ _ _ hB_ (s.up hb)) hcA hcB hn8A hn8B).mono (Ret.to (fun v W h=>by rw [←hL] at h;exact h))))<|obs_nil) fun a w6 s hr=> ?_
   obtain ⟨v59,e59⟩: ∃v,a.tmps.getD 59 undef=v:=⟨_,rfl⟩
   have hv59:(SF.row 6 (pvs 19 L)).p v59 w6:=e59▸(hr (_,_) mz2)
   replace s:=s.learn 59 v59 e59
   have hb0:=s.below
   replace hT:=hT.below hb0
   replace hA:=(SF.row 6 _).st _ _ _ hA hb0
   replace hB_:=(SF.row 6 _).st _ _ _ hB_ hb0
   replace s:StS _ _ _ [⟨5,31,PX.cu y,b5,true⟩] _ _ _ _:=s.freeze
   replace s:=s.reb rfl [(59, .u (UF.eq (v59))),(56, .u (UF.eq (.bool ((withB (pps A) y.p)&&false)))),(7, .u (UF.eq (.bool true))),(41, .u (UF.eq (.bool ((((((decide (max ((((pxs A).length:Nat):Int)) ((((pxs B).length:Nat):Int))>6))||(gPt A))||(gPt B))||(gPt [y]))||(!(convB (pps A))))||(!(convB (pps B))))))),(6, .u (UF.eq (.bool false))),(0, .u (UF.eq l)),(1, .u (UF.eq r)),(2, .u (PX.u y))] (fmz ⟨.inl (.head _),fmz ⟨.inl mz1,fmz ⟨.inl mz2,fmz ⟨.inl mz3,fmz ⟨.inl mz4,fmz ⟨.inl mz5,fmz ⟨.inl mz6,fmz ⟨.inl mz7,fnz⟩⟩⟩⟩⟩⟩⟩⟩)
   refine t_set (UF.eq v59) rfl s (by kernel_rfl) iiz fun a w s=> ?_
   refine tail_end rfl ?_
   refine wpIn_seq ?_
   refine wpIn_seq ?_
   refine region_go 1 ((60, .u (UF.eq (.bool true))):: []) hmix s (by kernel_rfl)
    (oc ok_move<|obs_nil) fun a w7 s=> ?_
   refine tail_end rfl ?_
   refine StS.cond s true iiz (fun e=> ?_) (fun e=>by cases e)
   refine wpIn_seq ?_
   replace s:=s.drop [6]
   refine region_go 6 ((61, .s ((UF.eq v59).toSF))::(62, .s ((UF.eq (.bool true)).toSF))::(63, .s ((UF.eq (.bool true)).toSF))::(64, .s ((UF.eq (.bool true)).toSF))::(65, .s ((UF.eq (.bool true)).toSF))::(6, .u (UF.eq (.bool true))):: []) hmix s (by kernel_rfl)
    (oc ok_move<|oc (ok_call1 wide_wide en_24 (fun u0 W hb (h0:u0=v59)=>(flat_p (m:=19) (ps:=L) (by rw [show _=v59 from h0];exact (SF.row 6 (pvs (19) (L))).st _ _ _ hv59 (s.up hb)) (by decide) (by decide) hnL).mono (Ret.to (fun v W h=>by rw [hL,flat_both hcA hcB eP] at h;exact h))))<|oc ok_move<|oc (ok_guard 63 true (by kernel_rfl) iiz (fun _=>ok_call0 wide_wide en_13 (fun W hb=>wakes18 (hT.below (s.up hb)))) (fun e=>absurd rfl e))<|oc (ok_pick true iiz (fun _ _ _ h=>h) (fun e=>by cases e))<|oc (ok_assign)<|obs_nil) fun a w8 s=> ?_
   refine tail_end rfl ?_
   refine wpIn_ret ?_
   exact StS.resB s hb0 (t:=6) rfl iiz
  ·rw [eP] at s
   refine region_go 11 ((46, .s ((UF.eq (.bool false)).toSF))::(47, .s ((UF.eq (.bool false)).toSF))::(51, .s ((UF.eq (.bool false)).toSF))::(52, .s ((UF.eq (.bool false)).toSF))::(56, .u (UF.eq (.bool false))):: []) hmix s (by kernel_rfl)
    (oc ok_move<|oc ok_move<|oc (ok_guard 47 false (by kernel_rfl) iiz (fun e=>by cases e) (fun _ _=>trivial))<|oc (ok_guard 47 false (by kernel_rfl) iiz (fun e=>by cases e) (fun _ _=>trivial))<|oc (ok_guard 47 false (by kernel_rfl) iiz (fun e=>by cases e) (fun _ _=>trivial))<|oc (ok_pick false iiz (fun e=>by cases e) (fun _ _ _ h=>h))<|oc ok_move<|oc (ok_guard 52 false (by kernel_rfl) iiz (fun e=>by cases e) (fun _ _=>trivial))<|oc (ok_guard 52 false (by kernel_rfl) iiz (fun e=>by cases e) (fun _ _=>trivial))<|oc (ok_guard 52 false (by kernel_rfl) iiz (fun e=>by cases e) (fun _ _=>trivial))<|oc (ok_pick false iiz (fun e=>by cases e) (fun _ _ _ h=>h))<|obs_nil) fun a w9 s=> ?_
   refine tail_end rfl ?_
   refine StS.cond s false iiz (fun e=>by cases e) (fun e=> ?_)
   refine wpIn_skip ?_
   refine wpIn_seq ?_
   refine region_goN 3 ((57, .s ((UF.eq l).toSF))::(58, .s ((UF.eq r).toSF))::(59, .s (SF.row 6 (pvs 19 L))):: []) hmix s (by kernel_rfl)
    (oc ok_move<|oc ok_move<|oc (ok_call2 wide_wide en_23 (fun u0 u1 W hb (h0:u0=l) (h1:u1=r)=>(both_p (ps:=pps A) (qs:=pps B) (by rw [show _=l from h0];exact (SF.row 6 (pvs (2) (pps A))).st _ _ _ hA (s.up hb)) (by rw [show _=r from h1];exact (SF.row 6 (pvs (2) (pps B))).st _ _ _ hB_ (s.up hb)) hcA hcB hn8A hn8B).mono (Ret.to (fun v W h=>by rw [←hL] at h;exact h))))<|obs_nil) fun a w10 s hr=> ?_
   obtain ⟨v59,e59⟩: ∃v,a.tmps.getD 59 undef=v:=⟨_,rfl⟩
   have hv59:(SF.row 6 (pvs 19 L)).p v59 w10:=e59▸(hr (_,_) mz2)
   replace s:=s.learn 59 v59 e59
   have hb0:=s.below
   replace hT:=hT.below hb0
   replace hA:=(SF.row 6 _).st _ _ _ hA hb0
   replace hB_:=(SF.row 6 _).st _ _ _ hB_ hb0
   replace s:StS _ _ _ [⟨5,31,PX.cu y,b5,true⟩] _ _ _ _:=s.freeze
   replace s:=s.reb rfl [(59, .u (UF.eq (v59))),(56, .u (UF.eq (.bool false))),(7, .u (UF.eq (.bool false))),(41, .u (UF.eq (.bool ((((((decide (max ((((pxs A).length:Nat):Int)) ((((pxs B).length:Nat):Int))>6))||(gPt A))||(gPt B))||(gPt [y]))||(!(convB (pps A))))||(!(convB (pps B))))))),(6, .u (UF.eq (.bool false))),(0, .u (UF.eq l)),(1, .u (UF.eq r)),(2, .u (PX.u y))] (fmz ⟨.inl (.head _),fmz ⟨.inl mz1,fmz ⟨.inl mz2,fmz ⟨.inl mz3,fmz ⟨.inl mz4,fmz ⟨.inl mz5,fmz ⟨.inl mz6,fmz ⟨.inl mz7,fnz⟩⟩⟩⟩⟩⟩⟩⟩)
   refine t_set (UF.eq v59) rfl s (by kernel_rfl) iiz fun a w s=> ?_
   refine tail_end rfl ?_
   refine wpIn_seq ?_
   refine wpIn_seq ?_
   refine region_go 1 ((60, .u (UF.eq (.bool false))):: []) hmix s (by kernel_rfl)
    (oc ok_move<|obs_nil) fun a w11 s=> ?_
   refine tail_end rfl ?_
   refine StS.cond s false iiz (fun e=>by cases e) (fun e=> ?_)
   refine wpIn_skip ?_
   refine wpIn_seq ?_
   refine wpIn_seq ?_
   refine region_go 3 ((66, .s ((UF.eq v59).toSF))::(67, .s ((UF.eq (.int .i64 ((((pvs (19) (L)).length:Nat):Int)))).toSF))::(68, .u (UF.eq (.bool false))):: []) hmix s (by kernel_rfl)
    (oc ok_move<|oc (ok_lenB (z:=6) (Cs:=pvs (19) (L)) (by kernel_rfl) (fun v W hb h=>(by rw [show _=v59 from h];exact (SF.row 6 (pvs (19) (L))).st _ _ _ hv59 (s.up hb))) (fun _=>rfl))<|oc (ok_cmpI .i64 ((((pvs (19) (L)).length:Nat):Int)) (3) false iiz iiz (decide_eq_false (by have:=(both_in hcA hcB eP).1;rw [←hL] at this;simp;omega)) rfl)<|obs_nil) fun a w12 s=> ?_
   refine tail_end rfl ?_
   refine StS.cond s false iiz (fun e=>by cases e) (fun e=> ?_)
   refine wpIn_skip ?_
   refine wpIn_seq ?_
   obtain ⟨h3L,hi1,hi2⟩:=both_in hcA hcB eP
   have hfew:=both_few hcA hcB eP
   rw [←hL] at h3L hi1 hi2 hfew
   have hn12:L.length≤12:=by omega
   have hlz:(pvs 19 L).length=L.length:=by simp
   have hqL: ∀p,p∈L→QB p.1 19∧QB p.2 19:=fun p hp=>by rw [hL] at hp;exact hpb p hp
   obtain ⟨TT,hTT⟩: ∃t,t=((1:Int):Rat) / (((L.length:Nat):Int):Rat):=⟨_,rfl⟩
   obtain ⟨MID,hMID⟩: ∃p:V2,p=((sumK L L.length).1*TT,(sumK L L.length).2*TT):=⟨_,rfl⟩
   have hmv:MID=midV L (1 / (L.length:Rat)):=by rw [hMID,hTT];exact mid_cast L
   have hinA:withB (pps A) MID=true:=withB_t.2 ⟨by rw [hmv];exact hi1,hcA.three⟩
   have hinB:withB (pps B) MID=true:=withB_t.2 ⟨by rw [hmv];exact hi2,hcB.three⟩
   have hqz:QB (((L.length:Nat):Int):Rat) 1:=qbz (by omega)
   have hne: ¬(((L.length:Nat):Int):Rat)=0:=fun h=>by have:=(Rat.intCast_eq_zero_iff).1 h;omega
   have hqt1:QB TT 2:=by rw [hTT];exact (qbz (z:=1) (by decide)).div hqz
   have hqt:QB TT 241:=hqt1.mono (by decide)
   have hqsum:=sumK_qb hqL
   refine region_go 1 ((69, .u (fPV (241) ((sumK L 0)))):: []) hmix s (by kernel_rfl)
    (oc (ok_call2 wide_wide en_25 (fun u0 u1 W hb (h0:u0= .int .i64 (0)) (h1:u1= .int .i64 (0))=>(r8of_p h0 h1 (by decide) (by decide)).mono (Ret.to (fun v W h=>pn_pv (p:=sumK L 0) (m:=241) (QB.zero (by decide)) (QB.zero (by decide)) h))))<|obs_nil) fun a w13 s=> ?_
   refine t_alloc (CU.len 6) (cs:= [.bool false, .slice none 0 0, .slice none 0 0, .bool false, .slice none 0 0, .slice none 0 0]) (by kernel_rfl) rfl s (by kernel_rfl) (fun W=>rfl) rfl fun b9 a w s=> ?_
   refine t_store (CU.agg (fPV (241) ((sumK L 0)))) ((fPV (241) ((sumK L 0))).toSF) rfl s (by kernel_rfl) rfl rfl rfl iiz iiz (pt_store) fun a w s=> ?_
   refine tail_end rfl ?_
   refine wpIn_seq ?_
   refine wpIn_seq ?_
   refine region_go 1 ((10, .u (UF.eq (.int .i64 (0)))):: []) hmix s (by kernel_rfl)
    (oc (ok_assign)<|obs_nil) fun a w14 s=> ?_
   refine tail_end rfl ?_
   refine wpIn_block ?_
   refine st_whileB 9 (fun k=>CU.agg (fPV (241) ((sumK L k)))) (fun k=>k≤L.length) (fun k=> [(0, .u (UF.eq l)),(1, .u (UF.eq r)),(8, .u (UF.eq v59)),(10, .u (UF.eq (.int .i64 (((k:Nat):Int)))))]) (fun k=>L.length - k) ((0:Nat)) (Nat.zero_le _) (s.keepK _ (fmz ⟨mz10,fmz ⟨mz11,fmz ⟨mz4,fmz ⟨.head _,fnz⟩⟩⟩⟩)) rfl fun k a w hx s=> ?_
   refine wpIn_seq ?_
   refine wpIn_seq ?_
   refine region_go 4 ((70, .s ((UF.eq (.int .i64 (((k:Nat):Int)))).toSF))::(71, .s ((UF.eq v59).toSF))::(72, .s ((UF.eq (.int .i64 ((((pvs (19) (L)).length:Nat):Int)))).toSF))::(73, .u (UF.eq (.bool (decide (((k:Nat):Int)<(((pvs (19) (L)).length:Nat):Int)))))):: []) hmix s (by kernel_rfl)
    (oc ok_move<|oc ok_move<|oc (ok_lenB (z:=6) (Cs:=pvs (19) (L)) (by kernel_rfl) (fun v W hb h=>(by rw [show _=v59 from h];exact (SF.row 6 (pvs (19) (L))).st _ _ _ hv59 (s.up hb))) (fun _=>rfl))<|oc (ok_cmpI .i64 (((k:Nat):Int)) ((((pvs (19) (L)).length:Nat):Int)) (decide (((k:Nat):Int)<(((pvs (19) (L)).length:Nat):Int))) iiz iiz rfl rfl)<|obs_nil) fun a w15 s=> ?_
   refine tail_end rfl ?_
   refine StS.cond s (decide (((k:Nat):Int)<(((pvs (19) (L)).length:Nat):Int))) iiz (fun e=> ?_) (fun e=> ?_)
   ·have hk:k<L.length:=by have:=of_decide_eq_true e;simp at this;omega
    have hqk:=hqL _ (at_mem hk)
    have hqs:QB (sumK L k).1 241∧QB (sumK L k).2 241:=⟨(hqsum k (Nat.le_of_lt hk)).1.mono (by omega),(hqsum k (Nat.le_of_lt hk)).2.mono (by omega)⟩
    have hqn:QB (sumK L (k+1)).1 241∧QB (sumK L (k+1)).2 241:=⟨(hqsum (k+1) hk).1.mono (by omega),(hqsum (k+1) hk).2.mono (by omega)⟩
    refine wpIn_skip ?_
    refine wpIn_seq ?_
    refine wpIn_block ?_
    refine region_goP [1,2] 6 ((76, .s ((fPV (241) ((sumK L k))).toSF))::(77, .s ((UF.eq v59).toSF))::(78, .s ((UF.eq (.int .i64 (((k:Nat):Int)))).toSF))::(79, .s (SF.ptr (CU.agg (fPV (19) ((at_ L k)))).cf))::(80, .s ((fPV (19) ((at_ L k))).toSF))::(81, .u (fPV (241) ((sumK L (k+1))))):: []) hmix s (by kernel_rfl)
     (oc (ok_ldW (f:=fPV (241) ((sumK L k))) 6 (by kernel_rfl) (hz:=pt_len _ _))<|oc ok_move<|oc ok_move<|oc (ok_indexB (z:=6) (Cs:=pvs (19) (L)) (i:=k) (C:=CU.agg (fPV (19) ((at_ L k)))) (by kernel_rfl) (pvs_get hk) (fun v W hb h=>(by rw [show _=v59 from h];exact (SF.row 6 (pvs (19) (L))).st _ _ _ hv59 (s.up hb))) iiz)<|oc (ok_ldW (f:=fPV (19) ((at_ L k))) 6 (by kernel_rfl) (hz:=pt_len _ _))<|oc (ok_call2 wide_wide en_20 (fun u0 u1 W hb (h0:(fPV (241) ((sumK L k))).p u0 W) (h1:(fPV (19) ((at_ L k))).p u1 W)=>(r8add_p (m:=241) (p:=sumK L k) (q:=at_ L k) h0 (pv_mono (by decide) h1) hqs ⟨hqk.1.mono (by decide),hqk.2.mono (by decide)⟩ (by decide)).mono (Ret.to (fun v W h=>pn_pv (p:=sumK L (k+1)) (m:=241) hqn.1 hqn.2 h))))<|obs_nil) fun Q' hQ a w16 s=> ?_
    refine t_store (CU.agg (fPV (241) ((sumK L (k+1))))) ((fPV (241) ((sumK L (k+1)))).toSF) rfl s (by kernel_rfl) rfl rfl rfl (pt_len _ _) iiz (pt_store) fun a w s=> ?_
    refine tail_end rfl (hQ _ _ ?_)
    refine region_goS 2 ((74, .s ((UF.eq (.int .i64 (((k:Nat):Int)))).toSF))::(75, .u (UF.eq (.int .i64 (((k+1:Nat):Int))))):: []) s (by kernel_rfl)
     (oc ok_move<|oc (ok_addI .i64 (((k:Nat):Int)) (1) (((k+1:Nat):Int)) iiz iiz (wrap64 _ _ (by omega) (by omega)))<|obs_nil) fun a w17 s=> ?_
    replace s:=s.drop [10]
    refine t_set (UF.eq (.int .i64 (((k+1:Nat):Int)))) rfl s (by kernel_rfl) iiz fun a w s=> ?_
    refine tail_end rfl ?_
    exact ⟨k+1,hk,(by show L.length - (k+1)<L.length - k;omega),s.keepK _ (fmz ⟨mz4,fmz ⟨mz5,fmz ⟨mz6,fmz ⟨.head _,fnz⟩⟩⟩⟩)⟩
   ·have hkL:k=L.length:=by have h7:=of_decide_eq_false e;simp at h7;omega
    have hqs:QB (sumK L L.length).1 241∧QB (sumK L L.length).2 241:=⟨(hqsum _ (Nat.le_refl _)).1.mono (by omega),(hqsum _ (Nat.le_refl _)).2.mono (by omega)⟩
    have hqm:QB MID.1 243∧QB MID.2 243:=by rw [hMID];exact ⟨(((hqsum _ (Nat.le_refl _)).1.mul hqt1)).mono (by omega),(((hqsum _ (Nat.le_refl _)).2.mul hqt1)).mono (by omega)⟩
    rw [hkL] at s
    refine wpIn_exit ?_
    refine wpIn_seq ?_
    refine region_go 8 ((83, .s ((fQN (((1:Int):Rat))).toSF))::(84, .s ((UF.eq v59).toSF))::(85, .s ((UF.eq (.int .i64 ((((pvs (19) (L)).length:Nat):Int)))).toSF))::(86, .s ((fQN ((((L.length:Nat):Int):Rat))).toSF))::(87, .s ((fTup2 (fQN (TT)) (UF.eq (.int .i64 (0)))).toSF))::(82, .s ((fTup2 (fQN (TT)) (UF.eq (.int .i64 (0)))).toSF))::(88, .u (fQN (TT)))::(89, .u (UF.eq (.int .i64 (0)))):: []) hmix s (by kernel_rfl)
     (oc (ok_call1 wide_wide en_27 (fun u0 W hb (h0:u0= .int .i64 (1))=>r7of_w 1 h0 (by decide)))<|oc ok_move<|oc (ok_lenB (z:=6) (Cs:=pvs (19) (L)) (by kernel_rfl) (fun v W hb h=>(by rw [show _=v59 from h];exact (SF.row 6 (pvs (19) (L))).st _ _ _ hv59 (s.up hb))) (fun _=>rfl))<|oc (ok_call1 wide_wide en_27 (fun u0 W hb (h0:u0= .int .i64 ((((pvs (19) (L)).length:Nat):Int)))=>r7of_w ((L.length:Nat):Int) (by rw [hlz] at h0;exact h0) (by omega)))<|oc (ok_call2 wide_wide en_26 (fun u0 u1 W hb (h0:QNp (((1:Int):Rat)) u0 W) (h1:QNp ((((L.length:Nat):Int):Rat)) u1 W)=>(r7quo_q (m:=1) (QNp.rv h0 (qbz (z:=1) (by decide))) (QNp.rv h1 hqz) (by decide) (by decide)).mono (Ret.to (fun v W h=>by rw [if_neg hne, ←hTT] at h;exact h))))<|oc ok_move<|oc (ok_ext20 (A:=(fQN (TT)).toSF) (B:=(UF.eq (.int .i64 (0))).toSF) iiz)<|oc (ok_ext21 (A:=(fQN (TT)).toSF) (B:=(UF.eq (.int .i64 (0))).toSF) iiz)<|obs_nil) fun a w18 s=> ?_
    refine t_alloc (CU.len 3) (cs:= [.bool false, .slice none 0 0, .slice none 0 0]) (by kernel_rfl) rfl s (by kernel_rfl) (fun W=>rfl) rfl fun b11 a w s=> ?_
    refine t_store (CU.agg (fQN (TT))) ((fQN (TT)).toSF) rfl s (by kernel_rfl) rfl rfl rfl iiz iiz (qn_store) fun a w s=> ?_
    refine t_set (UF.eq (.int .i64 (0))) rfl s (by kernel_rfl) iiz fun a w s=> ?_
    refine tail_end rfl ?_
    refine wpIn_seq ?_
    refine region_go 3 ((90, .s ((fPV (241) ((sumK L L.length))).toSF))::(91, .s ((fQN (TT)).toSF))::(92, .u (fPV (243) (MID))):: []) hmix s (by kernel_rfl)
     (oc (ok_ldW (f:=fPV (241) ((sumK L L.length))) 6 (by kernel_rfl) (hz:=pt_len _ _))<|oc (ok_ldW (f:=fQN (TT)) 3 (by kernel_rfl) (hz:=qn_len _))<|oc (ok_call2 wide_wide en_28 (fun u0 u1 W hb (h0:(fPV (241) ((sumK L L.length))).p u0 W) (h1:QNp (TT) u1 W)=>(r8scale_p (m:=241) (p:=sumK L L.length) (t:=TT) h0 (QNp.rv h1 hqt) hqs hqt (by decide)).mono (Ret.to (fun v W h=>pn_pv (p:=MID) (m:=243) hqm.1 hqm.2 (by rw [hMID];exact h)))))<|obs_nil) fun a w19 s=> ?_
    refine t_store (CU.agg (fPV (243) (MID))) ((fPV (243) (MID)).toSF) rfl s (by kernel_rfl) rfl rfl rfl (pt_len _ _) iiz (pt_store) fun a w s=> ?_
    refine tail_end rfl ?_
    refine wpIn_seq ?_
    refine region_go 16 ((93, .s ((UF.eq (.int .i64 (0))).toSF))::(94, .s ((UF.eq (.bool true)).toSF))::(95, .s ((UF.eq (.bool true)).toSF))::(96, .s ((UF.eq l).toSF))::(97, .s ((fPV (243) (MID)).toSF))::(98, .s ((UF.eq (.bool true)).toSF))::(99, .s ((UF.eq (.bool true)).toSF))::(100, .s ((UF.eq (.bool true)).toSF))::(101, .s ((UF.eq r).toSF))::(102, .s ((fPV (243) (MID)).toSF))::(103, .s ((UF.eq (.bool true)).toSF))::(104, .s ((UF.eq (.bool true)).toSF))::(105, .s ((UF.eq (.bool true)).toSF))::(106, .s ((UF.eq (.bool true)).toSF))::(107, .s ((UF.eq (.bool true)).toSF))::(6, .u (UF.eq (.bool true))):: []) hmix s (by kernel_rfl)
     (oc ok_move<|oc (ok_cmpI .i64 (0) (0) true iiz iiz (by rfl) rfl)<|oc ok_move<|oc (ok_guard 95 true (by kernel_rfl) iiz (fun _=>ok_move) (fun e=>absurd rfl e))<|oc (ok_guard 95 true (by kernel_rfl) iiz (fun _=>ok_ldW (f:=fPV (243) (MID)) 6 (by kernel_rfl) (hz:=pt_len _ _)) (fun e=>absurd rfl e))<|oc (ok_guard 95 true (by kernel_rfl) iiz (fun _=>ok_call2 wide_wide en_22 (fun u0 u1 W hb (h0:u0=l) (h1:(fPV (243) (MID)).p u1 W)=>(r18within_p (m:=2) (M:=243) (ps:=pps A) (p:=MID) (by rw [show _=l from h0];exact (SF.row 6 (pvs (2) (pps A))).st _ _ _ hA (s.up hb)) h1 (by decide) (by decide) (by decide) hnA).mono (Ret.to (fun v W h=>by rw [hinA] at h;exact h)))) (fun e=>absurd rfl e))<|oc (ok_pick true iiz (fun _ _ _ h=>h) (fun e=>by cases e))<|oc ok_move<|oc (ok_guard 100 true (by kernel_rfl) iiz (fun _=>ok_move) (fun e=>absurd rfl e))<|oc (ok_guard 100 true (by kernel_rfl) iiz (fun _=>ok_ldW (f:=fPV (243) (MID)) 6 (by kernel_rfl) (hz:=pt_len _ _)) (fun e=>absurd rfl e))<|oc (ok_guard 100 true (by kernel_rfl) iiz (fun _=>ok_call2 wide_wide en_22 (fun u0 u1 W hb (h0:u0=r) (h1:(fPV (243) (MID)).p u1 W)=>(r18within_p (m:=2) (M:=243) (ps:=pps B) (p:=MID) (by rw [show _=r from h0];exact (SF.row 6 (pvs (2) (pps B))).st _ _ _ hB_ (s.up hb)) h1 (by decide) (by decide) (by decide) hnB).mono (Ret.to (fun v W h=>by rw [hinB] at h;exact h)))) (fun e=>absurd rfl e))<|oc (ok_pick true iiz (fun _ _ _ h=>h) (fun e=>by cases e))<|oc ok_move<|oc (ok_guard 105 true (by kernel_rfl) iiz (fun _=>ok_call0 wide_wide en_13 (fun W hb=>wakes18 (hT.below (s.up hb)))) (fun e=>absurd rfl e))<|oc (ok_pick true iiz (fun _ _ _ h=>h) (fun e=>by cases e))<|oc (ok_assign)<|obs_nil) fun a w20 s=> ?_
    refine tail_end rfl ?_
    refine wpIn_ret ?_
    exact StS.resB s hb0 (t:=6) rfl iiz
end Go.Proofs.Wd
