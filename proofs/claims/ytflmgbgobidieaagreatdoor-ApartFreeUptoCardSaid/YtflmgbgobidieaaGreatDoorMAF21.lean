/- Walks of straitlaw18: wakes; Triangles as they are handed in; walks of and what it needs. -/
import Derived.Test.YtflmgbgobidieaaGreatDoorMAF20
import Derived.Test.YtflmgbgobidieaaGreatDoorMAF19
namespace Go.Proofs.Wd
set_option maxRecDepth 100000
set_option maxHeartbeats 1000000
open Go.RowKit Lb
section
variable {F:Fence} {m:Nat} {P:Program} {w0:World} {ops:Array Oper} {G:Nat→SF} {d:Tmp} {ty:TypeId} {pos:String} {aft:Array Edge}
theorem ok_build3 {t:TypeId} {i j k:Nat} {x y z:Operand} (h: ∀u v q W,(fct G x).p u W→(fct G y).p v W→(fct G z).p q W→ ∃cells,P.built t [(i,u),(j,v),(k,q)]=some cells∧(G d).p (.agg cells) W):GdOK F m P w0 ops G ⟨some d, .build t #[(i,x),(j,y),(k,z)],ty,pos,aft,none⟩:=
 ok_build fun b W hb hh=>by
  obtain ⟨cells,h1,h2⟩:=h _ _ _ W (hh x (by simp)) (hh y (by simp)) (hh z (by simp))
  exact ⟨cells,by simpa using h1,h2⟩
end
theorem ok_slice6 {F:Fence} {m:Nat} {w0:World} {ops:Array Oper} {G:Nat→SF} {d:Tmp} {ty:TypeId} {pos:String} {aft:Array Edge} (a b c e f g:Int) (hd: ∀v W,(SF.row 1 (ints [a,b,c,e,f,g])).p v W→(G d).p v W):GdOK F m Tryz.prog w0 ops G ⟨some d, .buildSlice 38 6 #[(0, .const (.int .i64 a)),(1, .const (.int .i64 b)),(2, .const (.int .i64 c)),(3, .const (.int .i64 e)),(4, .const (.int .i64 f)),(5, .const (.int .i64 g))],ty,pos,aft,none⟩:=
 ok_slice fun bb W hb hh=>by
  have h1:=sInt6 a b c e f g
  have ev: ∀v:Value,bb.eval (.const v)=v:=fun _=>rfl
  refine ⟨3,#[.int .i64 a, .int .i64 b, .int .i64 c, .int .i64 e, .int .i64 f, .int .i64 g],by simpa [ev] using h1,hd _ _ (row_ints (L:= [a,b,c,e,f,g]) rfl rfl (by omega))⟩
theorem trB (s:Bool) (A A':Option Addr) (n n' c c':Nat) (s2:Bool) (B B':Option Addr) (k k' d d':Nat) (t:Bool) (C C':Option Addr) (i i' j j':Nat) (t2:Bool) (D D':Option Addr) (x x' y y':Nat) (r:Bool) (E E':Option Addr) (p p' q q':Nat) (r2:Bool) (F F':Option Addr) (g g' h h':Nat):Tryz.prog.built 33 [(0, .agg #[.bool s, .slice A n c, .slice A' n' c', .bool s2, .slice B k d, .slice B' k' d']),(1, .agg #[.bool t, .slice C i j, .slice C' i' j', .bool t2, .slice D x y, .slice D' x' y']),(2, .agg #[.bool r, .slice E p q, .slice E' p' q', .bool r2, .slice F g h, .slice F' g' h'])]=some #[.bool s, .slice A n c, .slice A' n' c', .bool s2, .slice B k d, .slice B' k' d', .bool t, .slice C i j, .slice C' i' j', .bool t2, .slice D x y, .slice D' x' y', .bool r, .slice E p q, .slice E' p' q', .bool r2, .slice F g h, .slice F' g' h']:=by kernel_rfl
theorem b_tr {m:Nat} {t:V6} {u v q:Value} {W:World} (hu:(fPV m t.1).p u W) (hv:(fPV m t.2.1).p v W) (hq:(fPV m t.2.2).p q W): ∃cells,Tryz.prog.built 33 [(0,u),(1,v),(2,q)]=some cells∧(fTR m t).p (.agg cells) W:=by
 obtain ⟨s,A,n,c,A',n',c',s2,B,k,d,B',k',d',rfl,h1,h2⟩:=hu
 obtain ⟨s3,A3,n3,c3,A4,n4,c4,s4,B3,k3,d3,B4,k4,d4,rfl,h3,h4⟩:=hv
 obtain ⟨s5,A5,n5,c5,A6,n6,c6,s6,B5,k5,d5,B6,k6,d6,rfl,h5,h6⟩:=hq
 exact ⟨_,trB ..,_,_,_,rfl,⟨s,A,n,c,A',n',c',s2,B,k,d,B',k',d',rfl,h1,h2⟩,⟨s3,A3,n3,c3,A4,n4,c4,s4,B3,k3,d3,B4,k4,d4,rfl,h3,h4⟩,⟨s5,A5,n5,c5,A6,n6,c6,s6,B5,k5,d5,B6,k6,d6,rfl,h5,h6⟩⟩
theorem sTr1 (u0 u1 u2 u3 u4 u5 u6 u7 u8 u9 u10 u11 u12 u13 u14 u15 u16 u17:Value):sliceCells Tryz.prog 23 1 [(0, .agg #[u0,u1,u2,u3,u4,u5,u6,u7,u8,u9,u10,u11,u12,u13,u14,u15,u16,u17])]=some (33,#[u0,u1,u2,u3,u4,u5,u6,u7,u8,u9,u10,u11,u12,u13,u14,u15,u16,u17]):=by kernel_rfl
theorem sTr2 (u0 u1 u2 u3 u4 u5 u6 u7 u8 u9 u10 u11 u12 u13 u14 u15 u16 u17 v0 v1 v2 v3 v4 v5 v6 v7 v8 v9 v10 v11 v12 v13 v14 v15 v16 v17:Value):sliceCells Tryz.prog 23 2 [(0, .agg #[u0,u1,u2,u3,u4,u5,u6,u7,u8,u9,u10,u11,u12,u13,u14,u15,u16,u17]),(1, .agg #[v0,v1,v2,v3,v4,v5,v6,v7,v8,v9,v10,v11,v12,v13,v14,v15,v16,v17])]=some (33,#[u0,u1,u2,u3,u4,u5,u6,u7,u8,u9,u10,u11,u12,u13,u14,u15,u16,u17,v0,v1,v2,v3,v4,v5,v6,v7,v8,v9,v10,v11,v12,v13,v14,v15,v16,v17]):=by kernel_rfl
theorem list18 {cs:List Value} (h:cs.length=18): ∃u0 u1 u2 u3 u4 u5 u6 u7 u8 u9 u10 u11 u12 u13 u14 u15 u16 u17,cs= [u0,u1,u2,u3,u4,u5,u6,u7,u8,u9,u10,u11,u12,u13,u14,u15,u16,u17]:=by
 match cs,h with
 | [u0,u1,u2,u3,u4,u5,u6,u7,u8,u9,u10,u11,u12,u13,u14,u15,u16,u17],_=>exact ⟨u0,u1,u2,u3,u4,u5,u6,u7,u8,u9,u10,u11,u12,u13,u14,u15,u16,u17,rfl⟩
theorem tr_list {m:Nat} {t:V6} {v:Value} {W:World} (h:(fTR m t).p v W): ∃cs:List Value,v= .agg cs.toArray∧cs.length=18∧(CU.agg (fTR m t)).p cs W:=by
 obtain ⟨a,b,c,rfl,h1⟩:=id h
 exact ⟨_,rfl,(tr_ok m t _ W h).1,h⟩
theorem sl_tr1 {m:Nat} {t:V6} {u:Value} {W:World} (h:(fTR m t).p u W): ∃e cs,sliceCells Tryz.prog 23 1 [(0,u)]=some (e,cs)∧(SF.row 18 (trs m [t])).p (.slice (some ⟨W.heap.size,0,none⟩) 1 1) (W.alloc (.cells cs e)):=by
 obtain ⟨cs,rfl,l,hc⟩:=tr_list h
 obtain ⟨u0,u1,u2,u3,u4,u5,u6,u7,u8,u9,u10,u11,u12,u13,u14,u15,u16,u17,rfl⟩:=list18 l
 refine ⟨_,_,sTr1 ..,some ⟨W.heap.size,0,none⟩,1,rfl,Nat.le_refl _,by decide,fun e=>(by cases e),fun i C hi=> ?_⟩
 have hb:=alloc_b W (.cells #[u0,u1,u2,u3,u4,u5,u6,u7,u8,u9,u10,u11,u12,u13,u14,u15,u16,u17] 33)
 have hm:=mem_new W #[u0,u1,u2,u3,u4,u5,u6,u7,u8,u9,u10,u11,u12,u13,u14,u15,u16,u17] 33
 obtain rfl:i=0:=by have:=(List.getElem?_eq_some_iff.1 hi).1;simp at this;omega
 obtain rfl:CU.agg (fTR m t)=C:=by simpa using hi
 refine ⟨W.heap.size,0,_,rfl, ?_,(CU.agg (fTR m t)).us _ _ _ hc (keepU_below hb)⟩
 rw [show 0+0*18=0 from rfl]
 exact hm
theorem sl_tr2 {m:Nat} {t t':V6} {u v:Value} {W:World} (h:(fTR m t).p u W) (h':(fTR m t').p v W): ∃e cs,sliceCells Tryz.prog 23 2 [(0,u),(1,v)]=some (e,cs)∧(SF.row 18 (trs m [t,t'])).p (.slice (some ⟨W.heap.size,0,none⟩) 2 2) (W.alloc (.cells cs e)):=by
 obtain ⟨cs,rfl,l,hc⟩:=tr_list h
 obtain ⟨u0,u1,u2,u3,u4,u5,u6,u7,u8,u9,u10,u11,u12,u13,u14,u15,u16,u17,rfl⟩:=list18 l
 obtain ⟨cs,rfl,l,hc'⟩:=tr_list h'
 obtain ⟨v0,v1,v2,v3,v4,v5,v6,v7,v8,v9,v10,v11,v12,v13,v14,v15,v16,v17,rfl⟩:=list18 l
 refine ⟨_,_,sTr2 ..,some ⟨W.heap.size,0,none⟩,2,rfl,Nat.le_refl _,by decide,fun e=>(by cases e),fun i C hi=> ?_⟩
 have hb:=alloc_b W (.cells #[u0,u1,u2,u3,u4,u5,u6,u7,u8,u9,u10,u11,u12,u13,u14,u15,u16,u17,v0,v1,v2,v3,v4,v5,v6,v7,v8,v9,v10,v11,v12,v13,v14,v15,v16,v17] 33)
 have hm:=mem_new W #[u0,u1,u2,u3,u4,u5,u6,u7,u8,u9,u10,u11,u12,u13,u14,u15,u16,u17,v0,v1,v2,v3,v4,v5,v6,v7,v8,v9,v10,v11,v12,v13,v14,v15,v16,v17] 33
 have hlt:=(List.getElem?_eq_some_iff.1 hi).1
 simp at hlt
 rcases (by omega:i=0∨i=1) with rfl|rfl
 ·obtain rfl:CU.agg (fTR m t)=C:=by simpa using hi
  refine ⟨W.heap.size,0, [u0,u1,u2,u3,u4,u5,u6,u7,u8,u9,u10,u11,u12,u13,u14,u15,u16,u17],rfl, ?_,(CU.agg (fTR m t)).us _ _ _ hc (keepU_below hb)⟩
  intro j u hj
  have hj':=(List.getElem?_eq_some_iff.1 hj).1
  have:=hm j u (by rw [show #[u0,u1,u2,u3,u4,u5,u6,u7,u8,u9,u10,u11,u12,u13,u14,u15,u16,u17,v0,v1,v2,v3,v4,v5,v6,v7,v8,v9,v10,v11,v12,v13,v14,v15,v16,v17].toList= [u0,u1,u2,u3,u4,u5,u6,u7,u8,u9,u10,u11,u12,u13,u14,u15,u16,u17]++ [v0,v1,v2,v3,v4,v5,v6,v7,v8,v9,v10,v11,v12,v13,v14,v15,v16,v17] from rfl,List.getElem?_append_left hj'];exact hj)
  simpa using this
 ·obtain rfl:CU.agg (fTR m t')=C:=by simpa using hi
  refine ⟨W.heap.size,0, [v0,v1,v2,v3,v4,v5,v6,v7,v8,v9,v10,v11,v12,v13,v14,v15,v16,v17],rfl, ?_,(CU.agg (fTR m t')).us _ _ _ hc' (keepU_below hb)⟩
  intro j u hj
  have hj':=(List.getElem?_eq_some_iff.1 hj).1
  have:=hm (18+j) u (by rw [show #[u0,u1,u2,u3,u4,u5,u6,u7,u8,u9,u10,u11,u12,u13,u14,u15,u16,u17,v0,v1,v2,v3,v4,v5,v6,v7,v8,v9,v10,v11,v12,v13,v14,v15,v16,v17].toList= [u0,u1,u2,u3,u4,u5,u6,u7,u8,u9,u10,u11,u12,u13,u14,u15,u16,u17]++ [v0,v1,v2,v3,v4,v5,v6,v7,v8,v9,v10,v11,v12,v13,v14,v15,v16,v17] from rfl,List.getElem?_append_right (by simp)];simpa using hj)
  simpa using this
def okS (L:List Int):Prop:= ∀i,(gI L i).natAbs<100
theorem okS.ok {L:List Int} (h:okS L):okIs L:=fun i=>by have:=h i;omega
theorem gI_okS {L:List Int} (h:L.all (fun z=>decide (z.natAbs<100))=true):okS L:=fun i=>by
 unfold gI
 rw [List.getD_eq_getElem?_getD]
 cases e:L[i]? with
 |none=>decide
 |some z=>
  have:=List.all_eq_true.1 h z (List.mem_of_getElem? e)
  exact of_decide_eq_true this
theorem qbz {z:Int} (h:z.natAbs<100):QB ((z:Int):Rat) 1:=QB.int (Nat.lt_trans h (by decide)) (by decide)
theorem triK_qb {L:List Int} (h:okS L) (k:Nat): ∀p,p∈triK L k→QB p.1 1∧QB p.2 1:=fun p hp=>by
 obtain ⟨j,_,rfl⟩:=List.mem_map.1 hp
 exact ⟨qbz (h _),qbz (h _)⟩
abbrev LA:List Int:= [0,0,2,0,0,2]
abbrev LB:List Int:= [1,1,2,1,2,2]
abbrev LC:List Int:= [1,0,2,1,1,1]
abbrev TA:V6:=((((1:Int):Rat),((0:Int):Rat)),(((2:Int):Rat),((1:Int):Rat)),(((1:Int):Rat),((1:Int):Rat)))
theorem wk1:polysB (triK LA 3) (triK LB 3)=true:=by kernel_rfl
theorem wk2:polysB (triK LA 3) (triK LC 3)=false:=by kernel_rfl
theorem wk3:whichK (shiftV (triK LA 3) (((0:Int):Rat),((0:Int):Rat))) [TA,TA] 2= [0,1]:=by kernel_rfl
theorem wk4:(!([TA].any (fun t=> !(polysB (shiftV (triK LA 3) (((-5:Int):Rat),((0:Int):Rat))) (tl t)))))=true:=by kernel_rfl
theorem wakes18 {W:World} (hT:Tab W):Calls Tryz.prog 13 #[] W (Ret W (fB true).toSF):=by
 refine run_st [] Tryz.func13 rfl (by kernel_rfl) trivial fun a s=> ?_
 refine wpIn_seq ?_
 refine region_go 1 ((0, .u (UF.eq (.bool false))):: []) hmix s (by kernel_rfl)
  (oc (ok_assign)<|obs_nil) fun a w1 s=> ?_
 refine tail_end rfl ?_
 refine wpIn_seq ?_
 refine region_goN 2 ((4, .s (SF.row 1 (ints [0,0,2,0,0,2])))::(5, .s (SF.newRow w1 31 6 (pns (triK [0,0,2,0,0,2] 3)))):: []) hmix s (by kernel_rfl)
  (oc (ok_slice6 _ _ _ _ _ _ iiz)<|oc (ok_call1 wide_wide en_60 (fun u0 W hb (h0:(SF.row 1 (ints [0,0,2,0,0,2])).p u0 W)=>(tri_p (L:= [0,0,2,0,0,2]) h0 (gI_okS (by decide)).ok (by decide)).mono (Ret.to (newRow_old hb.size))))<|obs_nil) fun a w2 s hr=> ?_
 obtain ⟨v5,e5⟩: ∃v,a.tmps.getD 5 undef=v:=⟨_,rfl⟩
 have hv5:(SF.row 6 (pvs 1 (triK LA 3))).p v5 w2:=e5▸pns_pvs (triK_qb (gI_okS (by decide)) 3) _ _ (newRow_row _ _ (hr (_,_) mz1))
 replace s:=s.learn 5 v5 e5
 have hb0:=s.below
 replace hT:=hT.below hb0
 replace s:=s.reb rfl [(5, .u (UF.eq (v5))),(0, .u (UF.eq (.bool false)))] (fmz ⟨.inl (.head _),fmz ⟨.inl mz1,fnz⟩⟩)
 refine t_set (UF.eq v5) rfl s (by kernel_rfl) iiz fun a w s=> ?_
 refine tail_end rfl ?_
 refine wpIn_seq ?_
 refine region_go 4 ((6, .s ((fPN (((((1):Int):Rat),(((0):Int):Rat)))).toSF))::(7, .s ((fPN (((((2):Int):Rat),(((1):Int):Rat)))).toSF))::(8, .s ((fPN (((((1):Int):Rat),(((1):Int):Rat)))).toSF))::(9, .u (fTR (1) (TA))):: []) hmix s (by kernel_rfl)
  (oc (ok_call2 wide_wide en_25 (fun u0 u1 W hb (h0:u0= .int .i64 (1)) (h1:u1= .int .i64 (0))=>r8of_p h0 h1 (by decide) (by decide)))<|oc (ok_call2 wide_wide en_25 (fun u0 u1 W hb (h0:u0= .int .i64 (2)) (h1:u1= .int .i64 (1))=>r8of_p h0 h1 (by decide) (by decide)))<|oc (ok_call2 wide_wide en_25 (fun u0 u1 W hb (h0:u0= .int .i64 (1)) (h1:u1= .int .i64 (1))=>r8of_p h0 h1 (by decide) (by decide)))<|oc (ok_build3 (fun u v q W (hu:(fPN (((((1):Int):Rat),(((0):Int):Rat)))).p u W) (hv:(fPN (((((2):Int):Rat),(((1):Int):Rat)))).p v W) (hq:(fPN (((((1):Int):Rat),(((1):Int):Rat)))).p q W)=>b_tr (t:=TA) (pn_pv (p:=((((1):Int):Rat),(((0):Int):Rat))) (m:=1) (qbz (by decide)) (qbz (by decide)) hu) (pn_pv (p:=((((2):Int):Rat),(((1):Int):Rat))) (m:=1) (qbz (by decide)) (qbz (by decide)) hv) (pn_pv (p:=((((1):Int):Rat),(((1):Int):Rat))) (m:=1) (qbz (by decide)) (qbz (by decide)) hq)))<|obs_nil) fun a w3 s=> ?_
 refine t_alloc (CU.len 18) (cs:= [.bool false, .slice none 0 0, .slice none 0 0, .bool false, .slice none 0 0, .slice none 0 0, .bool false, .slice none 0 0, .slice none 0 0, .bool false, .slice none 0 0, .slice none 0 0, .bool false, .slice none 0 0, .slice none 0 0, .bool false, .slice none 0 0, .slice none 0 0]) (by kernel_rfl) rfl s (by kernel_rfl) (fun W=>rfl) rfl fun b2 a w s=> ?_
 refine t_store (CU.agg (fTR (1) (TA))) ((fTR (1) (TA)).toSF) rfl s (by kernel_rfl) rfl rfl rfl iiz iiz (tr_store) fun a w s=> ?_
 refine tail_end rfl ?_
 refine wpIn_seq ?_
 refine region_goA2 (fun i=> [].contains i) [] 6 ((10, .s ((UF.eq v5).toSF))::(11, .s ((fTR (1) (TA)).toSF))::(12, .s ((fTR (1) (TA)).toSF))::(13, .s (SF.row 18 (trs 1 [TA,TA])))::(14, .s ((fPN (((((0):Int):Rat),(((0):Int):Rat)))).toSF))::(15, .s (SF.newRow w 3 1 (nums [0,1]))):: []) hmix s (fnz) (by kernel_rfl)
  (oc ok_move<|oc (ok_ldW (f:=fTR (1) (TA)) 18 (by kernel_rfl) (hz:=tr_len _ _))<|oc (ok_ldW (f:=fTR (1) (TA)) 18 (by kernel_rfl) (hz:=tr_len _ _))<|oc (ok_slice2 (fun u v W (hu:(fTR 1 TA).p u W) (hv:(fTR 1 TA).p v W)=>sl_tr2 hu hv))<|oc (ok_call2 wide_wide en_25 (fun u0 u1 W hb (h0:u0= .int .i64 (0)) (h1:u1= .int .i64 (0))=>r8of_p h0 h1 (by decide) (by decide)))<|oc (ok_call3 wide_wide en_15 (fun u0 u1 u2 W hb (h0:u0=v5) (h1:(SF.row 18 (trs 1 [TA,TA])).p u1 W) (h2:(fPN (((((0):Int):Rat),(((0):Int):Rat)))).p u2 W)=>(awhich_p (m:=1) (rs:=triK LA 3) (ts:= [TA,TA]) (p:=((((0):Int):Rat),(((0):Int):Rat))) (by rw [show _=v5 from h0];exact (SF.row 6 (pvs (1) (triK LA 3))).st _ _ _ hv5 (s.up hb)) h1 (pn_pv (p:=((((0):Int):Rat),(((0):Int):Rat))) (m:=1) (qbz (by decide)) (qbz (by decide)) h2) (by decide) (by decide) (by decide) (by decide) (hT.below (s.up hb))).mono (Ret.to (fun v W h=>newRow_old hb.size v W (by rw [show [TA,TA].length=2 from rfl,wk3] at h;exact h)))))<|obs_nil) fun Q' hQ a w4 s hr hd=> ?_
 obtain ⟨v15,e15⟩: ∃v,a.tmps.getD 15 undef=v:=⟨_,rfl⟩
 have hv15:(SF.row 1 (nums [0,1])).p v15 w4:=e15▸newRow_row _ _ (hr (_,_) mz5)
 replace s:=s.learn 15 v15 e15
 have hb1:=s.below
 replace hT:=hT.below hb1
 replace hv5:=(SF.row 6 _).st _ _ _ hv5 hb1
 replace s:StS _ _ _ [⟨2,33,CU.agg (fTR (1) (TA)),b2,true⟩] _ _ _ _:=s.freeze
 replace s:=s.reb rfl [(15, .u (UF.eq (v15))),(9, .u (fTR (1) (TA))),(1, .u (UF.eq v5)),(5, .u (UF.eq (v5))),(0, .u (UF.eq (.bool false)))] (fmz ⟨.inl (.head _),fmz ⟨.inl mz1,fmz ⟨.inl mz2,fmz ⟨.inl mz3,fmz ⟨.inl mz4,fnz⟩⟩⟩⟩⟩)
 refine t_set (UF.eq v15) rfl s (by kernel_rfl) iiz fun a w s=> ?_
 refine tail_end rfl (hQ _ _ ?_)
 refine wpIn_seq ?_
 replace s:=s.drop [0]
 refine region_go 43 ((16, .s ((UF.eq v5).toSF))::(17, .s (SF.row 1 (ints [1,1,2,1,2,2])))::(18, .s (SF.row 6 (pns (triK [1,1,2,1,2,2] 3))))::(19, .s ((UF.eq (.bool true)).toSF))::(20, .s ((UF.eq (.bool true)).toSF))::(21, .s ((UF.eq v5).toSF))::(22, .s (SF.row 1 (ints [1,0,2,1,1,1])))::(23, .s (SF.row 6 (pns (triK [1,0,2,1,1,1] 3))))::(24, .s ((UF.eq (.bool false)).toSF))::(25, .s ((UF.eq (.bool true)).toSF))::(26, .s ((UF.eq (.bool true)).toSF))::(27, .s ((UF.eq (.bool true)).toSF))::(28, .s ((UF.eq v15).toSF))::(29, .s ((UF.eq (.int .i64 ((((nums [0,1]).length:Nat):Int)))).toSF))::(30, .s ((UF.eq (.bool true)).toSF))::(31, .s ((UF.eq (.bool true)).toSF))::(32, .s ((UF.eq (.bool true)).toSF))::(33, .s ((UF.eq v15).toSF))::(34, .s (SF.ptr (CU.is [.int .i64 (((0:Nat)):Int)]).cf))::(35, .s ((UF.eq (.int .i64 ((((0:Nat)):Int)))).toSF))::(36, .s ((UF.eq (.bool true)).toSF))::(37, .s ((UF.eq (.bool true)).toSF))::(38, .s ((UF.eq (.bool true)).toSF))::(39, .s ((UF.eq v15).toSF))::(40, .s (SF.ptr (CU.is [.int .i64 (((1:Nat)):Int)]).cf))::(41, .s ((UF.eq (.int .i64 ((((1:Nat)):Int)))).toSF))::(42, .s ((UF.eq (.bool true)).toSF))::(43, .s ((UF.eq (.bool true)).toSF))::(44, .s ((UF.eq (.bool true)).toSF))::(45, .s ((UF.eq v5).toSF))::(46, .s ((fTR (1) (TA)).toSF))::(47, .s (SF.row 18 (trs 1 [TA])))::(48, .s ((fPN (((((-5):Int):Rat),(((0):Int):Rat)))).toSF))::(49, .s ((UF.eq (.bool true)).toSF))::(50, .s ((UF.eq (.bool true)).toSF))::(51, .s ((UF.eq (.bool true)).toSF))::(52, .s ((UF.eq v5).toSF))::(53, .s ((fPN (((((1):Int):Rat),(((1):Int):Rat)))).toSF))::(54, .s (SF.row 6 (pns (shiftV (triK LA 3) ((((1):Int):Rat),(((1):Int):Rat))))))::(55, .s ((UF.eq (.int .i64 ((((pns (shiftV (triK LA 3) ((((1):Int):Rat),(((1):Int):Rat)))).length:Nat):Int)))).toSF))::(56, .s ((UF.eq (.bool true)).toSF))::(57, .s ((UF.eq (.bool true)).toSF))::(0, .u (UF.eq (.bool true))):: []) hmix s (by kernel_rfl)
  (oc ok_move<|oc (ok_slice6 _ _ _ _ _ _ iiz)<|oc (ok_call1 wide_wide en_60 (fun u0 W hb (h0:(SF.row 1 (ints [1,1,2,1,2,2])).p u0 W)=>(tri_p (L:= [1,1,2,1,2,2]) h0 (gI_okS (by decide)).ok (by decide)).mono (Ret.to newRow_row)))<|oc (ok_call2 wide_wide en_16 (fun u0 u1 W hb (h0:u0=v5) (h1:(SF.row 6 (pns (triK [1,1,2,1,2,2] 3))).p u1 W)=>(apolys_p (m:=1) (ps:=triK LA 3) (qs:=triK [1,1,2,1,2,2] 3) (by rw [show _=v5 from h0];exact (SF.row 6 (pvs (1) (triK LA 3))).st _ _ _ hv5 (s.up hb)) (pns_pvs (triK_qb (gI_okS (by decide)) 3) _ _ h1) (by decide) (by decide) (by decide) (by decide) (hT.below (s.up hb))).mono (Ret.to (fun v W h=>by rw [wk1] at h;exact h))))<|oc ok_move<|oc (ok_guard 20 true (by kernel_rfl) iiz (fun _=>ok_move) (fun e=>absurd rfl e))<|oc (ok_guard 20 true (by kernel_rfl) iiz (fun _=>ok_slice6 _ _ _ _ _ _ iiz) (fun e=>absurd rfl e))<|oc (ok_guard 20 true (by kernel_rfl) iiz (fun _=>ok_call1 wide_wide en_60 (fun u0 W hb (h0:(SF.row 1 (ints [1,0,2,1,1,1])).p u0 W)=>(tri_p (L:= [1,0,2,1,1,1]) h0 (gI_okS (by decide)).ok (by decide)).mono (Ret.to newRow_row))) (fun e=>absurd rfl e))<|oc (ok_guard 20 true (by kernel_rfl) iiz (fun _=>ok_call2 wide_wide en_16 (fun u0 u1 W hb (h0:u0=v5) (h1:(SF.row 6 (pns (triK [1,0,2,1,1,1] 3))).p u1 W)=>(apolys_p (m:=1) (ps:=triK LA 3) (qs:=triK [1,0,2,1,1,1] 3) (by rw [show _=v5 from h0];exact (SF.row 6 (pvs (1) (triK LA 3))).st _ _ _ hv5 (s.up hb)) (pns_pvs (triK_qb (gI_okS (by decide)) 3) _ _ h1) (by decide) (by decide) (by decide) (by decide) (hT.below (s.up hb))).mono (Ret.to (fun v W h=>by rw [wk2] at h;exact h)))) (fun e=>absurd rfl e))<|oc (ok_guard 20 true (by kernel_rfl) iiz (fun _=>ok_not (false) iiz (fun _=>rfl)) (fun e=>absurd rfl e))<|oc (ok_pick true iiz (fun _ _ _ h=>h) (fun e=>by cases e))<|oc ok_move<|oc (ok_guard 27 true (by kernel_rfl) iiz (fun _=>ok_move) (fun e=>absurd rfl e))<|oc (ok_guard 27 true (by kernel_rfl) iiz (fun _=>ok_lenB (z:=1) (Cs:=nums [0,1]) (by kernel_rfl) (fun v W hb h=>(by rw [show _=v15 from h];exact (SF.row 1 (nums [0,1])).st _ _ _ hv15 (s.up hb))) (fun _=>rfl)) (fun e=>absurd rfl e))<|oc (ok_guard 27 true (by kernel_rfl) iiz (fun _=>ok_cmpI .i64 ((((nums [0,1]).length:Nat):Int)) (2) true iiz iiz (by rfl) rfl) (fun e=>absurd rfl e))<|oc (ok_pick true iiz (fun _ _ _ h=>h) (fun e=>by cases e))<|oc ok_move<|oc (ok_guard 32 true (by kernel_rfl) iiz (fun _=>ok_move) (fun e=>absurd rfl e))<|oc (ok_guard 32 true (by kernel_rfl) iiz (fun _=>ok_indexB (z:=1) (Cs:=nums [0,1]) (i:=0) (C:=CU.is [.int .i64 (((0:Nat)):Int)]) (by kernel_rfl) rfl (fun v W hb h=>(by rw [show _=v15 from h];exact (SF.row 1 (nums [0,1])).st _ _ _ hv15 (s.up hb))) iiz) (fun e=>absurd rfl e))<|oc (ok_guard 32 true (by kernel_rfl) iiz (fun _=>ok_load1 (C:=(CU.is [.int .i64 (((0:Nat)):Int)]).cf) (by kernel_rfl) iiz (is_get)) (fun e=>absurd rfl e))<|oc (ok_guard 32 true (by kernel_rfl) iiz (fun _=>ok_cmpI .i64 ((((0:Nat)):Int)) (0) true iiz iiz (by rfl) rfl) (fun e=>absurd rfl e))<|oc (ok_pick true iiz (fun _ _ _ h=>h) (fun e=>by cases e))<|oc ok_move<|oc (ok_guard 38 true (by kernel_rfl) iiz (fun _=>ok_move) (fun e=>absurd rfl e))<|oc (ok_guard 38 true (by kernel_rfl) iiz (fun _=>ok_indexB (z:=1) (Cs:=nums [0,1]) (i:=1) (C:=CU.is [.int .i64 (((1:Nat)):Int)]) (by kernel_rfl) rfl (fun v W hb h=>(by rw [show _=v15 from h];exact (SF.row 1 (nums [0,1])).st _ _ _ hv15 (s.up hb))) iiz) (fun e=>absurd rfl e))<|oc (ok_guard 38 true (by kernel_rfl) iiz (fun _=>ok_load1 (C:=(CU.is [.int .i64 (((1:Nat)):Int)]).cf) (by kernel_rfl) iiz (is_get)) (fun e=>absurd rfl e))<|oc (ok_guard 38 true (by kernel_rfl) iiz (fun _=>ok_cmpI .i64 ((((1:Nat)):Int)) (1) true iiz iiz (by rfl) rfl) (fun e=>absurd rfl e))<|oc (ok_pick true iiz (fun _ _ _ h=>h) (fun e=>by cases e))<|oc ok_move<|oc (ok_guard 44 true (by kernel_rfl) iiz (fun _=>ok_move) (fun e=>absurd rfl e))<|oc (ok_guard 44 true (by kernel_rfl) iiz (fun _=>ok_ldW (f:=fTR (1) (TA)) 18 (by kernel_rfl) (hz:=tr_len _ _)) (fun e=>absurd rfl e))<|oc (ok_guard 44 true (by kernel_rfl) iiz (fun _=>ok_slice1 (fun u W (hu:(fTR 1 TA).p u W)=>sl_tr1 hu)) (fun e=>absurd rfl e))<|oc (ok_guard 44 true (by kernel_rfl) iiz (fun _=>ok_call2 wide_wide en_25 (fun u0 u1 W hb (h0:u0= .int .i64 (-5)) (h1:u1= .int .i64 (0))=>r8of_p h0 h1 (by decide) (by decide))) (fun e=>absurd rfl e))<|oc (ok_guard 44 true (by kernel_rfl) iiz (fun _=>ok_call3 wide_wide en_14 (fun u0 u1 u2 W hb (h0:u0=v5) (h1:(SF.row 18 (trs 1 [TA])).p u1 W) (h2:(fPN (((((-5):Int):Rat),(((0):Int):Rat)))).p u2 W)=>(afree_p (m:=1) (rs:=triK LA 3) (ts:= [TA]) (p:=((((-5):Int):Rat),(((0):Int):Rat))) (by rw [show _=v5 from h0];exact (SF.row 6 (pvs (1) (triK LA 3))).st _ _ _ hv5 (s.up hb)) h1 (pn_pv (p:=((((-5):Int):Rat),(((0):Int):Rat))) (m:=1) (qbz (by decide)) (qbz (by decide)) h2) (by decide) (by decide) (by decide) (by decide) (hT.below (s.up hb))).mono (Ret.to (fun v W h=>by rw [wk4] at h;exact h)))) (fun e=>absurd rfl e))<|oc (ok_pick true iiz (fun _ _ _ h=>h) (fun e=>by cases e))<|oc ok_move<|oc (ok_guard 51 true (by kernel_rfl) iiz (fun _=>ok_move) (fun e=>absurd rfl e))<|oc (ok_guard 51 true (by kernel_rfl) iiz (fun _=>ok_call2 wide_wide en_25 (fun u0 u1 W hb (h0:u0= .int .i64 (1)) (h1:u1= .int .i64 (1))=>r8of_p h0 h1 (by decide) (by decide))) (fun e=>absurd rfl e))<|oc (ok_guard 51 true (by kernel_rfl) iiz (fun _=>ok_call2 wide_wide en_17 (fun u0 u1 W hb (h0:u0=v5) (h1:(fPN (((((1):Int):Rat),(((1):Int):Rat)))).p u1 W)=>(ashift_p (m:=1) (ps:=triK LA 3) (t:=((((1):Int):Rat),(((1):Int):Rat))) (by rw [show _=v5 from h0];exact (SF.row 6 (pvs (1) (triK LA 3))).st _ _ _ hv5 (s.up hb)) (pn_pv (p:=((((1):Int):Rat),(((1):Int):Rat))) (m:=1) (qbz (by decide)) (qbz (by decide)) h1) (by decide) (by decide) (by decide) (hT.below (s.up hb))).mono (Ret.to newRow_row))) (fun e=>absurd rfl e))<|oc (ok_guard 51 true (by kernel_rfl) iiz (fun _=>ok_lenR (z:=6) (Cs:=pns (shiftV (triK LA 3) ((((1):Int):Rat),(((1):Int):Rat)))) (by kernel_rfl) iiz (fun _=>rfl)) (fun e=>absurd rfl e))<|oc (ok_guard 51 true (by kernel_rfl) iiz (fun _=>ok_cmpI .i64 ((((pns (shiftV (triK LA 3) ((((1):Int):Rat),(((1):Int):Rat)))).length:Nat):Int)) (3) true iiz iiz (by rfl) rfl) (fun e=>absurd rfl e))<|oc (ok_pick true iiz (fun _ _ _ h=>h) (fun e=>by cases e))<|oc (ok_assign)<|obs_nil) fun a w5 s=> ?_
 refine tail_end rfl ?_
 refine wpIn_ret ?_
 exact StS.resB s (hb0.trans (hb1.mono hb0.size)) rfl iiz
end Go.Proofs.Wd

namespace Go.Proofs.Wd
set_option maxRecDepth 100000
set_option maxHeartbeats 1000000
open Go.RowKit Lb
def TGp (u v q:UF) (x:Value) (w:World):Prop:= ∃a b c:List Value,x= .agg (a++b++c).toArray∧(CU.agg u).p a w∧(CU.agg v).p b w∧(CU.agg q).p c w
def fTG (u v q:UF):UF:= .mk' (TGp u v q) fun _ _ _ ⟨a,b,c,e,h1,h2,h3⟩ k=>⟨a,b,c,e,(CU.agg u).us _ _ _ h1 k,(CU.agg v).us _ _ _ h2 k,(CU.agg q).us _ _ _ h3 k⟩
section
variable {f g f' g' f'' g'':UF}
theorem tg_parts {cs:List Value} {W:World} (h:(CU.agg (fTG (fPT f g) (fPT f' g') (fPT f'' g''))).p cs W): ∃a b c:List Value,cs=a++b++c∧a.length=6∧b.length=6∧c.length=6∧(CU.agg (fPT f g)).p a W∧(CU.agg (fPT f' g')).p b W∧(CU.agg (fPT f'' g'')).p c W:=by
 obtain ⟨a,b,c,e,h1,h2,h3⟩:=h
 have:=congrArg Array.toList (agg_inj e)
 have this:cs=a++b++c:=this
 exact ⟨a,b,c,this,(pt_ok _ _ a W h1).1,(pt_ok _ _ b W h2).1,(pt_ok _ _ c W h3).1,h1,h2,h3⟩
theorem tg_ok:CU.ok 18 (CU.agg (fTG (fPT f g) (fPT f' g') (fPT f'' g''))):=fun cs W h=>by
 obtain ⟨a,b,c,rfl,l1,l2,l3,h1,h2,h3⟩:=tg_parts h
 have o1:=pt_ok _ _ a W h1;have o2:=pt_ok _ _ b W h2;have o3:=pt_ok _ _ c W h3
 refine ⟨by simp [l1,l2,l3],all_app o1.2.1 o2.2.1 o3.2.1,fun u hu=> ?_⟩
 rcases List.mem_append.1 hu with hu|hu
 ·rcases List.mem_append.1 hu with hu|hu
  ·exact o1.2.2 u hu
  ·exact o2.2.2 u hu
 ·exact o3.2.2 u hu
theorem tg_len: ∀cs:List Value, ∀W,(fTG (fPT f g) (fPT f' g') (fPT f'' g'')).p (.agg cs.toArray) W→cs.length=18:=fun cs W h=>(tg_ok cs W h).1
theorem tg_box {v:Value} {W:World} (h:(fTG (fPT f g) (fPT f' g') (fPT f'' g'')).p v W):(CU.agg (fTG (fPT f g) (fPT f' g') (fPT f'' g''))).p v.cells.toList W∧v.cells.toList.all noLimb=true:=by
 obtain ⟨a,b,c,rfl,h1⟩:=id h
 exact ⟨h,(tg_ok _ W h).2.1⟩
theorem tg_whole (cs:List Value) (W:World) (h:(CU.agg (fTG (fPT f g) (fPT f' g') (fPT f'' g''))).p cs W):0+18≤cs.length∧(fTG (fPT f g) (fPT f' g') (fPT f'' g'')).p (.agg ((cs.drop 0).take 18).toArray) W:=by
 have:=tg_ok cs W h
 refine ⟨by omega, ?_⟩
 rw [List.drop_zero,List.take_of_length_le (by omega)]
 exact h
theorem tg_pt0 (cs:List Value) (W:World) (h:(CU.agg (fTG (fPT f g) (fPT f' g') (fPT f'' g''))).p cs W):0+6≤cs.length∧(fPT f g).p (.agg ((cs.drop 0).take 6).toArray) W:=by
 obtain ⟨a,b,c,rfl,l1,l2,l3,h1,_⟩:=tg_parts h
 refine ⟨by simp [l1,l2,l3], ?_⟩
 rw [List.drop_zero,List.append_assoc,List.take_append_of_le_length (by omega),List.take_of_length_le (by omega)]
 exact h1
theorem tg_pt6 (cs:List Value) (W:World) (h:(CU.agg (fTG (fPT f g) (fPT f' g') (fPT f'' g''))).p cs W):6+6≤cs.length∧(fPT f' g').p (.agg ((cs.drop 6).take 6).toArray) W:=by
 obtain ⟨a,b,c,rfl,l1,l2,l3,_,h2,_⟩:=tg_parts h
 refine ⟨by simp [l1,l2,l3], ?_⟩
 rw [List.append_assoc,List.drop_append_of_le_length (by omega),List.drop_of_length_le (by omega),List.nil_append,List.take_append_of_le_length (by omega),List.take_of_length_le (by omega)]
 exact h2
theorem tg_pt12 (cs:List Value) (W:World) (h:(CU.agg (fTG (fPT f g) (fPT f' g') (fPT f'' g''))).p cs W):12+6≤cs.length∧(fPT f'' g'').p (.agg ((cs.drop 12).take 6).toArray) W:=by
 obtain ⟨a,b,c,rfl,l1,l2,l3,_,_,h3⟩:=tg_parts h
 refine ⟨by simp [l1,l2,l3], ?_⟩
 rw [List.drop_append_of_le_length (by simp;omega),List.drop_of_length_le (by simp;omega),List.nil_append,List.take_of_length_le (by omega)]
 exact h3
theorem row_new {W:World} {e:TypeId} {z:Nat} {Cs:List CU} {cs:List Value} (hlen:Cs.length≤9223372036854775807) (h: ∀(i:Nat) (C:CU),Cs[i]?=some C→ ∃p:List Value,(∀j u,p[j]?=some u→cs[i*z+j]?=some u)∧C.p p W):(SF.row z Cs).p (.slice (some ⟨W.heap.size,0,none⟩) Cs.length Cs.length) (W.alloc (.cells cs.toArray e)):=by
 refine ⟨some ⟨W.heap.size,0,none⟩,Cs.length,rfl,Nat.le_refl _,hlen,fun e=>(by cases e),fun i C hi=> ?_⟩
 obtain ⟨p,h1,h2⟩:=h i C hi
 refine ⟨W.heap.size,0,p,rfl,fun j u hj=> ?_,C.us _ _ _ h2 (keepU_below (alloc_b W _))⟩
 have:=mem_new W cs.toArray e (i*z+j) u (by simpa using h1 j u hj)
 rwa [←Nat.add_assoc] at this
theorem sPt3 (s:Bool) (A A':Option Addr) (n n' c c':Nat) (s2:Bool) (B B':Option Addr) (k k' d d':Nat) (t:Bool) (C C':Option Addr) (i i' j j':Nat) (t2:Bool) (D D':Option Addr) (x x' y y':Nat) (r:Bool) (E E':Option Addr) (p p' q q':Nat) (r2:Bool) (F F':Option Addr) (g g' h h':Nat):sliceCells Tryz.prog 22 3 [(0, .agg #[.bool s, .slice A n c, .slice A' n' c', .bool s2, .slice B k d, .slice B' k' d']),(1, .agg #[.bool t, .slice C i j, .slice C' i' j', .bool t2, .slice D x y, .slice D' x' y']),(2, .agg #[.bool r, .slice E p q, .slice E' p' q', .bool r2, .slice F g h, .slice F' g' h'])]=some (31,#[.bool s, .slice A n c, .slice A' n' c', .bool s2, .slice B k d, .slice B' k' d', .bool t, .slice C i j, .slice C' i' j', .bool t2, .slice D x y, .slice D' x' y', .bool r, .slice E p q, .slice E' p' q', .bool r2, .slice F g h, .slice F' g' h']):=by kernel_rfl
theorem sl_pt3 {u v q:Value} {W:World} (hu:(fPT f g).p u W) (hv:(fPT f' g').p v W) (hq:(fPT f'' g'').p q W): ∃e cs,sliceCells Tryz.prog 22 3 [(0,u),(1,v),(2,q)]=some (e,cs)∧(SF.row 6 [CU.agg (fPT f g),CU.agg (fPT f' g'),CU.agg (fPT f'' g'')]).p (.slice (some ⟨W.heap.size,0,none⟩) 3 3) (W.alloc (.cells cs e)):=by
 obtain ⟨s,A,n,c,A',n',c',s2,B,k,d,B',k',d',rfl,h1,h2⟩:=hu
 obtain ⟨s3,A3,n3,c3,A4,n4,c4,s4,B3,k3,d3,B4,k4,d4,rfl,h3,h4⟩:=hv
 obtain ⟨s5,A5,n5,c5,A6,n6,c6,s6,B5,k5,d5,B6,k6,d6,rfl,h5,h6⟩:=hq
 refine ⟨_,_,sPt3 ..,row_new (Cs:= [CU.agg (fPT f g),CU.agg (fPT f' g'),CU.agg (fPT f'' g'')]) (cs:=_) (by simp) fun i C hi=> ?_⟩
 have hlt:=(List.getElem?_eq_some_iff.1 hi).1
 simp at hlt
 rcases (by omega:i=0∨i=1∨i=2) with rfl|rfl|rfl
 ·obtain rfl:CU.agg (fPT f g)=C:=by simpa using hi
  exact ⟨[.bool s, .slice A n c, .slice A' n' c', .bool s2, .slice B k d, .slice B' k' d'],fun j u hj=>by
   have h9:=(List.getElem?_eq_some_iff.1 hj).1
   simp at h9
   rcases (by omega:j=0∨j=1∨j=2∨j=3∨j=4∨j=5) with rfl|rfl|rfl|rfl|rfl|rfl<;>exact hj,s,A,n,c,A',n',c',s2,B,k,d,B',k',d',rfl,h1,h2⟩
 ·obtain rfl:CU.agg (fPT f' g')=C:=by simpa using hi
  exact ⟨[.bool s3, .slice A3 n3 c3, .slice A4 n4 c4, .bool s4, .slice B3 k3 d3, .slice B4 k4 d4],fun j u hj=>by
   have h9:=(List.getElem?_eq_some_iff.1 hj).1
   simp at h9
   rcases (by omega:j=0∨j=1∨j=2∨j=3∨j=4∨j=5) with rfl|rfl|rfl|rfl|rfl|rfl<;>exact hj,s3,A3,n3,c3,A4,n4,c4,s4,B3,k3,d3,B4,k4,d4,rfl,h3,h4⟩
 ·obtain rfl:CU.agg (fPT f'' g'')=C:=by simpa using hi
  exact ⟨[.bool s5, .slice A5 n5 c5, .slice A6 n6 c6, .bool s6, .slice B5 k5 d5, .slice B6 k6 d6],fun j u hj=>by
   have h9:=(List.getElem?_eq_some_iff.1 hj).1
   simp at h9
   rcases (by omega:j=0∨j=1∨j=2∨j=3∨j=4∨j=5) with rfl|rfl|rfl|rfl|rfl|rfl<;>exact hj,s5,A5,n5,c5,A6,n6,c6,s6,B5,k5,d5,B6,k6,d6,rfl,h5,h6⟩
theorem sl_tg1 {u:Value} {W:World} (h:(fTG (fPT f g) (fPT f' g') (fPT f'' g'')).p u W): ∃e cs,sliceCells Tryz.prog 23 1 [(0,u)]=some (e,cs)∧(SF.row 18 [CU.agg (fTG (fPT f g) (fPT f' g') (fPT f'' g''))]).p (.slice (some ⟨W.heap.size,0,none⟩) 1 1) (W.alloc (.cells cs e)):=by
 obtain ⟨a,b,c,rfl,h1⟩:=id h
 obtain ⟨u0,u1,u2,u3,u4,u5,u6,u7,u8,u9,u10,u11,u12,u13,u14,u15,u16,u17,e⟩:=list18 (tg_ok _ _ h).1
 rw [e] at h ⊢
 refine ⟨_,_,sTr1 ..,row_new (Cs:= [CU.agg (fTG (fPT f g) (fPT f' g') (fPT f'' g''))]) (by simp) fun i C hi=> ?_⟩
 obtain rfl:i=0:=by have:=(List.getElem?_eq_some_iff.1 hi).1;simp at this;omega
 obtain rfl:_=C:=by simpa using hi
 exact ⟨_,fun j u hj=>by rw [Nat.zero_mul,Nat.zero_add];exact hj,h⟩
end
abbrev TX:=PX×PX×PX
abbrev TX.t (x:TX):V6:=(x.1.p,x.2.1.p,x.2.2.p)
abbrev TX.u (x:TX):UF:=fTG x.1.u x.2.1.u x.2.2.u
abbrev TX.cu (x:TX):CU:=CU.agg x.u
abbrev TX.l (x:TX):List PX:= [x.1,x.2.1,x.2.2]
abbrev txs (L:List TX):List CU:=L.map TX.cu
abbrev tts (L:List TX):List V6:=L.map TX.t
def PX.b (x:PX):Nat:=x.1.n+x.1.n'+(x.2.n+x.2.n')
def TX.b (x:TX):Nat:=PX.b x.1+PX.b x.2.1+PX.b x.2.2
def gTr (L:List TX):Bool:=(L.take 9).any (fun x=>gPt x.l)||decide (8<L.length)
theorem gTr_f {L:List TX} (h:gTr L=false):L.length≤8∧ ∀x,x∈L→gPt x.l=false:=by
 unfold gTr at h
 rw [Bool.or_eq_false_iff] at h
 have h2:=of_decide_eq_false h.2
 refine ⟨by omega,fun x hx=> ?_⟩
 have h1:=List.any_eq_false.1 h.1 x (by rw [List.take_of_length_le (by omega)];exact hx)
 simpa using h1
theorem gTr_big {L:List TX} {k:Nat} {x:TX} (hk:k≤8) (hx:L[k]?=some x) (h:gPt x.l=true):gTr L=true:=by
 unfold gTr
 rw [Bool.or_eq_true]
 left
 exact List.any_eq_true.2 ⟨x,List.mem_of_getElem? (i:=k) (by rw [List.getElem?_take,if_pos (by omega)];exact hx),h⟩
theorem gTr_end {L:List TX} (h: ∀(j:Nat) (y:TX),j<9→L[j]?=some y→gPt y.l=false):gTr L=decide ((((txs L).length:Nat):Int)>8):=by
 unfold gTr
 have:(L.take 9).any (fun x=>gPt x.l)=false:=by
  refine List.any_eq_false.2 fun x hx=> ?_
  obtain ⟨j,hj⟩:=List.getElem?_of_mem hx
  rw [List.getElem?_take] at hj
  split at hj
  ·rename_i hlt
   rw [h j x hlt hj];simp
  ·cases hj
 rw [this,Bool.false_or,decide_eq_decide,List.length_map]
 omega
theorem tx_tr {x:TX} (h:gPt x.l=false) {v:Value} {W:World} (hv:x.u.p v W):(fTR 2 x.t).p v W:=by
 obtain ⟨a,b,c,e,h1,h2,h3⟩:=hv
 have hb:=(gPt_f h).2
 exact ⟨a,b,c,e,px_pv (hb _ (by simp)) h1,px_pv (hb _ (by simp)) h2,px_pv (hb _ (by simp)) h3⟩
theorem txs_trs {L:List TX} (h: ∀x,x∈L→gPt x.l=false) (v:Value) (W:World) (hv:(SF.row 18 (txs L)).p v W):(SF.row 18 (trs 2 (tts L))).p v W:=
 row_imp (by simp) (fun i C D hC hD cs W hh=>by
  have hi:i<L.length:=by have:=(List.getElem?_eq_some_iff.1 hC).1;simpa using this
  rw [List.getElem?_map,List.getElem?_eq_getElem hi] at hC
  rw [List.getElem?_map,List.getElem?_map,List.getElem?_eq_getElem hi] at hD
  cases hC;cases hD
  exact tx_tr (h _ (List.getElem_mem hi)) hh) v W hv
theorem corners_p {f g f' g' f'' g'':UF} {W:World} {x:Value} (hx:(fTG (fPT f g) (fPT f' g') (fPT f'' g'')).p x W):Calls Tryz.prog 18 #[x] W (Ret W (SF.row 6 [CU.agg (fPT f g),CU.agg (fPT f' g'),CU.agg (fPT f'' g'')])):=by
 refine run_st [(fTG (fPT f g) (fPT f' g') (fPT f'' g'')).toSF] Tryz.func18 rfl (by kernel_rfl) ⟨hx,trivial⟩ fun a s=> ?_
 replace s:=s.renew [(0, .u (fTG (fPT f g) (fPT f' g') (fPT f'' g'')))] (fmz ⟨.inr ⟨_,rfl, .head _⟩,fnz⟩)
 refine wpIn_seq ?_
 refine region_go 0 [] hmix s (by kernel_rfl)
  obs_nil fun a w1 s=> ?_
 refine t_box (CU.agg (fTG (fPT f g) (fPT f' g') (fPT f'' g''))) rfl s (by kernel_rfl) (fun v W h=>tg_box h) fun b1 a w s=> ?_
 refine t_set (UF.eq (.slice none 0 0)) rfl s (by kernel_rfl) iiz fun a w s=> ?_
 refine tail_end rfl ?_
 refine wpIn_seq ?_
 replace s:=s.drop [2]
 refine region_goN 8 ((3, .s (SF.ptr ((CU.agg (fTG (fPT f g) (fPT f' g') (fPT f'' g''))).cf.at 0)))::(4, .s ((fPT f g).toSF))::(5, .s (SF.ptr ((CU.agg (fTG (fPT f g) (fPT f' g') (fPT f'' g''))).cf.at 6)))::(6, .s ((fPT f' g').toSF))::(7, .s (SF.ptr ((CU.agg (fTG (fPT f g) (fPT f' g') (fPT f'' g''))).cf.at 12)))::(8, .s ((fPT f'' g'').toSF))::(9, .s (SF.row 6 [CU.agg (fPT f g),CU.agg (fPT f' g'),CU.agg (fPT f'' g'')]))::(2, .s (SF.row 6 [CU.agg (fPT f g),CU.agg (fPT f' g'),CU.agg (fPT f'' g'')])):: []) hmix s (by kernel_rfl)
  (oc (ok_idxA (C:=(CU.agg (fTG (fPT f g) (fPT f' g') (fPT f'' g''))).cf) 0 0 (by kernel_rfl) (fun _ _ h=>h.2) iiz)<|oc (ok_ldA (C:=(CU.agg (fTG (fPT f g) (fPT f' g') (fPT f'' g''))).cf) (k:=0) 6 (by kernel_rfl) (h:=tg_pt0))<|oc (ok_idxA (C:=(CU.agg (fTG (fPT f g) (fPT f' g') (fPT f'' g''))).cf) 1 6 (by kernel_rfl) (fun _ _ h=>h.2) iiz)<|oc (ok_ldA (C:=(CU.agg (fTG (fPT f g) (fPT f' g') (fPT f'' g''))).cf) (k:=6) 6 (by kernel_rfl) (h:=tg_pt6))<|oc (ok_idxA (C:=(CU.agg (fTG (fPT f g) (fPT f' g') (fPT f'' g''))).cf) 2 12 (by kernel_rfl) (fun _ _ h=>h.2) iiz)<|oc (ok_ldA (C:=(CU.agg (fTG (fPT f g) (fPT f' g') (fPT f'' g''))).cf) (k:=12) 6 (by kernel_rfl) (h:=tg_pt12))<|oc (ok_slice3 (fun u v q W (hu:(fPT f g).p u W) (hv:(fPT f' g').p v W) (hq:(fPT f'' g'').p q W)=>sl_pt3 hu hv hq))<|oc (ok_assign)<|obs_nil) fun a w2 s hr=> ?_
 refine tail_end rfl ?_
 refine wpIn_ret ?_
 exact StS.resN s (Below.refl _ _) (t:=2) rfl (hr (_,_) mz7)
theorem r18gtris_p {L:List TX} {W:World} {l:Value} (hl:(SF.row 18 (txs L)).p l W):Calls Tryz.prog 12 #[l] W (Ret W (fB (gTr L)).toSF):=by
 refine run_st [SF.row 18 (txs L)] Tryz.func12 rfl (by kernel_rfl) ⟨hl,trivial⟩ fun a s=> ?_
 refine wpIn_seq ?_
 refine region_go 1 ((2, .u (UF.eq (.bool false))):: []) hmix s (by kernel_rfl)
  (oc (ok_assign)<|obs_nil) fun a w1 s=> ?_
 refine tail_end rfl ?_
 refine wpIn_seq ?_
 refine wpIn_seq ?_
 refine region_go 1 ((3, .u (UF.eq (.int .i64 (0)))):: []) hmix s (by kernel_rfl)
  (oc (ok_assign)<|obs_nil) fun a w2 s=> ?_
 refine tail_end rfl ?_
 refine wpIn_block ?_
 refine st_whileK (fun k=>k≤L.length∧k≤9∧ ∀(j:Nat) (y:TX),j<k→L[j]?=some y→gPt y.l=false) (fun k=> [(0, .o (SF.row 18 (txs L))),(3, .u (UF.eq (.int .i64 (((k:Nat):Int)))))]) (fun k=>9 - k) ((0:Nat)) (⟨Nat.zero_le _,by omega,fun j y hj=>absurd hj (Nat.not_lt_zero _)⟩) (s.keepK _ (fmz ⟨mz2,fmz ⟨.head _,fnz⟩⟩)) fun k a w hx s=> ?_
 refine wpIn_seq ?_
 refine wpIn_seq ?_
 refine region_go 8 ((4, .s ((UF.eq (.int .i64 (((k:Nat):Int)))).toSF))::(5, .s (SF.row 18 (txs L)))::(6, .s ((UF.eq (.int .i64 ((((txs L).length:Nat):Int)))).toSF))::(7, .s ((UF.eq (.bool (decide (((k:Nat):Int)<(((txs L).length:Nat):Int))))).toSF))::(8, .s ((UF.eq (.bool (decide (((k:Nat):Int)<(((txs L).length:Nat):Int))))).toSF))::(9, .s (SF.imp ((decide (((k:Nat):Int)<(((txs L).length:Nat):Int)))=true) ((UF.eq (.int .i64 (((k:Nat):Int)))).toSF)))::(10, .s (SF.imp ((decide (((k:Nat):Int)<(((txs L).length:Nat):Int)))=true) ((UF.eq (.bool (decide (((k:Nat):Int)≤8)))).toSF)))::(11, .u (UF.eq (.bool ((decide (((k:Nat):Int)<(((txs L).length:Nat):Int)))&&(decide (((k:Nat):Int)≤8)))))):: []) hmix s (by kernel_rfl)
  (oc ok_move<|oc ok_move<|oc (ok_lenR (z:=18) (Cs:=txs L) (by kernel_rfl) iiz (fun _=>rfl))<|oc (ok_cmpI .i64 (((k:Nat):Int)) ((((txs L).length:Nat):Int)) (decide (((k:Nat):Int)<(((txs L).length:Nat):Int))) iiz iiz rfl rfl)<|oc ok_move<|oc (ok_guard 8 (decide (((k:Nat):Int)<(((txs L).length:Nat):Int))) (by kernel_rfl) iiz (fun e=>gd_imp [] ((UF.eq (.int .i64 (((k:Nat):Int)))).toSF) (fnz) (fun _ _ h _=>h) (by kernel_rfl) (ok_move)) (fun e W h=>absurd h e))<|oc (ok_guard 8 (decide (((k:Nat):Int)<(((txs L).length:Nat):Int))) (by kernel_rfl) iiz (fun e=>gd_imp [(9,(UF.eq (.int .i64 (((k:Nat):Int)))).toSF)] ((UF.eq (.bool (decide (((k:Nat):Int)≤8)))).toSF) (fmz ⟨fun v W h=>imp_app (c:=(decide (((k:Nat):Int)<(((txs L).length:Nat):Int)))=true) (f:=(UF.eq (.int .i64 (((k:Nat):Int)))).toSF) e h,fnz⟩) (fun _ _ h _=>h) (by kernel_rfl) (ok_cmpI .i64 (((k:Nat):Int)) (8) (decide (((k:Nat):Int)≤8)) iiz iiz rfl rfl)) (fun e W h=>absurd h e))<|oc (ok_pick (decide (((k:Nat):Int)<(((txs L).length:Nat):Int))) iiz (fun e v W h=>pick_and (imp_app e h) e) (fun e v W h=>pick_and' h e))<|obs_nil) fun a w3 s=> ?_
 refine tail_end rfl ?_
 refine StS.cond s ((decide (((k:Nat):Int)<(((txs L).length:Nat):Int)))&&(decide (((k:Nat):Int)≤8))) iiz (fun e=> ?_) (fun e=> ?_)
 ·rw [Bool.and_eq_true] at e
  have hk1:k<L.length:=by have:=of_decide_eq_true e.1;simp at this;omega
  have hk2:k≤8:=by have:=of_decide_eq_true e.2;omega
  obtain ⟨x,hxl⟩: ∃x,L[k]?=some x:=⟨_,List.getElem?_eq_getElem hk1⟩
  have hx_:(txs L)[k]?=some (TX.cu x):=by rw [List.getElem?_map,hxl];rfl
  refine wpIn_skip ?_
  refine wpIn_seq ?_
  refine wpIn_block ?_
  refine wpIn_seq ?_
  refine region_go 6 ((14, .s (SF.row 18 (txs L)))::(15, .s ((UF.eq (.int .i64 (((k:Nat):Int)))).toSF))::(16, .s (SF.ptr (TX.cu x).cf))::(17, .s ((TX.u x).toSF))::(18, .s (SF.row 6 (pxs (TX.l x))))::(19, .u (UF.eq (.bool (gPt (TX.l x))))):: []) hmix s (by kernel_rfl)
   (oc ok_move<|oc ok_move<|oc (ok_index (z:=18) (Cs:=txs L) (i:=k) (C:=TX.cu x) (by kernel_rfl) hx_ iiz iiz)<|oc (ok_ldW (f:=TX.u x) 18 (by kernel_rfl) (hz:=tg_len))<|oc (ok_call1 wide_wide en_18 (fun u0 W hb (h0:(TX.u x).p u0 W)=>corners_p h0))<|oc (ok_call1 wide_wide en_11 (fun u0 W hb (h0:(SF.row 6 (pxs (TX.l x))).p u0 W)=>r18great_p (L:=TX.l x) h0))<|obs_nil) fun a w4 s=> ?_
  refine tail_end rfl ?_
  refine StS.cond s (gPt (TX.l x)) iiz (fun e=> ?_) (fun e=> ?_)
  ·refine wpIn_seq ?_
   refine region_go 1 ((2, .u (UF.eq (.bool true))):: []) hmix s (by kernel_rfl)
    (oc (ok_assign)<|obs_nil) fun a w5 s=> ?_
   refine tail_end rfl ?_
   refine wpIn_ret ?_
   exact StS.res1 s (t:=2) rfl (fun v W h=>by rw [gTr_big hk2 hxl e];exact h)
  ·have hbig:=e
   refine wpIn_skip ?_
   refine region_goS 2 ((12, .s ((UF.eq (.int .i64 (((k:Nat):Int)))).toSF))::(13, .u (UF.eq (.int .i64 (((k+1:Nat):Int))))):: []) s (by kernel_rfl)
    (oc ok_move<|oc (ok_addI .i64 (((k:Nat):Int)) (1) (((k+1:Nat):Int)) iiz iiz (wrap64 _ _ (by omega) (by omega)))<|obs_nil) fun a w6 s=> ?_
   replace s:=s.drop [3]
   refine t_set (UF.eq (.int .i64 (((k+1:Nat):Int)))) rfl s (by kernel_rfl) iiz fun a w s=> ?_
   refine tail_end rfl ?_
   exact ⟨k+1,⟨by omega,by omega,fun j y hj hy=>by rcases Nat.lt_or_eq_of_le (Nat.le_of_lt_succ hj) with h|h;exact hx.2.2 j y h hy;rw [h,hxl] at hy;cases hy;exact hbig⟩,(by show 9 - (k+1)<9 - k;omega),s.keepK _ (fmz ⟨mz4,fmz ⟨.head _,fnz⟩⟩)⟩
 ·have hend:L.length≤k∨k=9:=by
   rw [Bool.and_eq_false_iff] at e
   rcases e with e|e
   ·have h7:=of_decide_eq_false e;simp at h7;omega
   ·have h7:=of_decide_eq_false e;omega
  refine wpIn_exit ?_
  refine wpIn_seq ?_
  refine region_go 4 ((20, .s (SF.row 18 (txs L)))::(21, .s ((UF.eq (.int .i64 ((((txs L).length:Nat):Int)))).toSF))::(22, .s ((UF.eq (.bool (decide ((((txs L).length:Nat):Int)>8)))).toSF))::(2, .u (UF.eq (.bool (decide ((((txs L).length:Nat):Int)>8))))):: []) hmix s (by kernel_rfl)
   (oc ok_move<|oc (ok_lenR (z:=18) (Cs:=txs L) (by kernel_rfl) iiz (fun _=>rfl))<|oc (ok_cmpI .i64 ((((txs L).length:Nat):Int)) (8) (decide ((((txs L).length:Nat):Int)>8)) iiz iiz rfl rfl)<|oc (ok_assign)<|obs_nil) fun a w7 s=> ?_
  refine tail_end rfl ?_
  refine wpIn_ret ?_
  exact StS.res1 s (t:=2) rfl (fun v W h=>by rw [gTr_end (fun j y hj hy=>hx.2.2 j y (by have:=(List.getElem?_eq_some_iff.1 hy).1;omega) hy)];exact h)
end Go.Proofs.Wd

namespace Go.Proofs.Wd
set_option maxRecDepth 100000
set_option maxHeartbeats 1000000
open Go.RowKit Lb
section
variable {F:Fence} {m:Nat} {P:Program} {w0:World} {ops:Array Oper} {G:Nat→SF} {d:Tmp} {ty:TypeId} {pos:String} {aft:Array Edge}
theorem ok_cmpB {op:BinOp} {t:TypeId} {x y:Operand} {t':TypeId} (u v r:Bool) (ht:P.underlying t=some .bool) (hx: ∀q W,(fct G x).p q W→q= .bool u) (hy: ∀q W,(fct G y).p q W→q= .bool v) (hr:(match op with| .eql=>u==v| .neq=>u !=v|_=>false)=r) (ho:(match op with| .eql| .neq=>true|_=>false)=true) (hd: ∀W,(G d).p (.bool r) W:=by exact fun _=>rfl):GdOK F m P w0 ops G ⟨some d, .binOp op t x y t',ty,pos,aft,none⟩:=
 ok_bin (.bool u) (.bool v) (.bool r) hx hy (fun W=>by cases op<;>first|(cases ho;done)|simp [eqGuard]) (fun W=>by cases op<;>first|(cases ho;done)|(subst hr;cases u<;>cases v<;>simp [go_sem,ht])) hd
end
theorem px_whole {x:PX} (h:x.big=false) (cs:List Value) (W:World) (hc:(PX.cu x).p cs W):0+6≤cs.length∧(fPV 2 x.p).p (.agg ((cs.drop 0).take 6).toArray) W:=by
 obtain ⟨h1,h2⟩:=pt_whole cs W hc
 exact ⟨h1,px_pv h h2⟩
theorem tx_whole {x:TX} (h:gPt x.l=false) (cs:List Value) (W:World) (hc:(TX.cu x).p cs W):0+18≤cs.length∧(fTR 2 x.t).p (.agg ((cs.drop 0).take 18).toArray) W:=by
 obtain ⟨h1,h2⟩:=tg_whole cs W hc
 exact ⟨h1,tx_tr h h2⟩
theorem sPt2 (s:Bool) (A A':Option Addr) (n n' c c':Nat) (s2:Bool) (B B':Option Addr) (k k' d d':Nat) (t:Bool) (C C':Option Addr) (i i' j j':Nat) (t2:Bool) (D D':Option Addr) (x x' y y':Nat):sliceCells Tryz.prog 22 2 [(0, .agg #[.bool s, .slice A n c, .slice A' n' c', .bool s2, .slice B k d, .slice B' k' d']),(1, .agg #[.bool t, .slice C i j, .slice C' i' j', .bool t2, .slice D x y, .slice D' x' y'])]=some (31,#[.bool s, .slice A n c, .slice A' n' c', .bool s2, .slice B k d, .slice B' k' d', .bool t, .slice C i j, .slice C' i' j', .bool t2, .slice D x y, .slice D' x' y']):=by kernel_rfl
theorem sl_pt2 {f g f' g':UF} {u v:Value} {W:World} (hu:(fPT f g).p u W) (hv:(fPT f' g').p v W): ∃e cs,sliceCells Tryz.prog 22 2 [(0,u),(1,v)]=some (e,cs)∧(SF.row 6 [CU.agg (fPT f g),CU.agg (fPT f' g')]).p (.slice (some ⟨W.heap.size,0,none⟩) 2 2) (W.alloc (.cells cs e)):=by
 obtain ⟨s,A,n,c,A',n',c',s2,B,k,d,B',k',d',rfl,h1,h2⟩:=hu
 obtain ⟨s3,A3,n3,c3,A4,n4,c4,s4,B3,k3,d3,B4,k4,d4,rfl,h3,h4⟩:=hv
 refine ⟨_,_,sPt2 ..,row_new (Cs:= [CU.agg (fPT f g),CU.agg (fPT f' g')]) (cs:=_) (by simp) fun i C hi=> ?_⟩
 have hlt:=(List.getElem?_eq_some_iff.1 hi).1
 simp at hlt
 rcases (by omega:i=0∨i=1) with rfl|rfl
 ·obtain rfl:CU.agg (fPT f g)=C:=by simpa using hi
  exact ⟨[.bool s, .slice A n c, .slice A' n' c', .bool s2, .slice B k d, .slice B' k' d'],fun j u hj=>by
   have h9:=(List.getElem?_eq_some_iff.1 hj).1
   simp at h9
   rcases (by omega:j=0∨j=1∨j=2∨j=3∨j=4∨j=5) with rfl|rfl|rfl|rfl|rfl|rfl<;>exact hj,s,A,n,c,A',n',c',s2,B,k,d,B',k',d',rfl,h1,h2⟩
 ·obtain rfl:CU.agg (fPT f' g')=C:=by simpa using hi
  exact ⟨[.bool s3, .slice A3 n3 c3, .slice A4 n4 c4, .bool s4, .slice B3 k3 d3, .slice B4 k4 d4],fun j u hj=>by
   have h9:=(List.getElem?_eq_some_iff.1 hj).1
   simp at h9
   rcases (by omega:j=0∨j=1∨j=2∨j=3∨j=4∨j=5) with rfl|rfl|rfl|rfl|rfl|rfl<;>exact hj,s3,A3,n3,c3,A4,n4,c4,s4,B3,k3,d3,B4,k4,d4,rfl,h3,h4⟩
theorem corners_v {m:Nat} {t:V6} {W:World} {x:Value} (hx:(fTR m t).p x W):Calls Tryz.prog 18 #[x] W (Ret W (SF.row 6 (pvs m (tl t)))):=corners_p (f:=fRV m t.1.1) (g:=fRV m t.1.2) (f':=fRV m t.2.1.1) (g':=fRV m t.2.1.2) (f'':=fRV m t.2.2.1) (g'':=fRV m t.2.2.2) hx
def movT (z:V2) (t:V6):V6:=(addV t.1 z,addV t.2.1 z,addV t.2.2 z)
theorem any_mov (a:List V2) (ts:List V6) (y z:V2):(ts.map (movT z)).any (fun t=> !(polysB (shiftV a (addV y z)) (tl t)))=ts.any fun t=> !(polysB (shiftV a y) (tl t)):=by
 rw [List.any_map]
 congr 1
 funext t
 have e:shiftV a (addV y z)=shiftV (shiftV a y) z:=by
  unfold shiftV
  rw [List.map_map]
  refine List.map_congr_left fun p _=> ?_
  show (p.1+(y.1+z.1),p.2+(y.2+z.2))=(p.1+y.1+z.1,p.2+y.2+z.2)
  rw [Rat.add_assoc,Rat.add_assoc]
 show (!(polysB (shiftV a (addV y z)) (shiftV (tl t) z)))=_
 rw [e,polys_shift]
theorem nums_get {L:List Nat} {k:Nat} (h:decide (((k:Nat):Int)<(((nums L).length:Nat):Int))=true):(nums L)[k]?=some (CU.is [.int .i64 ((L.getD k 0:Nat):Int)]):=by
 have h:=of_decide_eq_true h
 have hk:k<L.length:=by simp at h;omega
 rw [List.getElem?_map,List.getD_eq_getElem?_getD,List.getElem?_eq_getElem hk]
 rfl
theorem which_split (a:List V2) (ts:List V6) {i n:Nat} (h:i<n): ∃l,whichK a ts n=whichK a ts i++l∧(polysB a (tl (at3 ts i))=false→ ∃r,l=i::r)∧(polysB a (tl (at3 ts i))=true→ ∀x,x∈l→x≠i):=by
 obtain ⟨k,rfl⟩: ∃k,n=i+1+k:=⟨n - (i+1),by omega⟩
 unfold whichK
 rw [Nat.add_assoc,List.range_add,List.filter_append]
 refine ⟨_,rfl,fun hf=> ?_,fun hf x hx=> ?_⟩
 ·rw [Nat.add_comm 1 k,List.range_succ_eq_map,List.map_cons,List.filter_cons,if_pos (by simp [hf])]
  exact ⟨_,rfl⟩
 ·obtain ⟨h1,h2⟩:=List.mem_filter.1 hx
  rintro rfl
  rw [hf] at h2
  cases h2
theorem there_eq {a:List V2} {ts:List V6} {n i:Nat} {wl:List Nat} (hwl:wl=whichK a ts n) (h:i<n):(decide ((((whichK a ts i).length:Nat):Int)<(((nums wl).length:Nat):Int))&&((((wl.getD (whichK a ts i).length 0:Nat)):Int)==((i:Nat):Int)))= !(polysB a (tl (at3 ts i))):=by
 obtain ⟨l,e,h1,h2⟩:=which_split a ts h
 subst hwl
 rw [e,List.length_map,List.length_append,List.getD_eq_getElem?_getD,List.getElem?_append_right (Nat.le_refl _),Nat.sub_self]
 cases hb:polysB a (tl (at3 ts i)) with
 |false=>
  obtain ⟨r,rfl⟩:=h1 hb
  simp
  omega
 | true=>
  have h2:=h2 hb
  cases l with
  |nil=>simp
  |cons x l=>
   have:=h2 x (by simp)
   simp
   omega
theorem which_len_t {a:List V2} {ts:List V6} {k:Nat} (h:(!(polysB a (tl (at3 ts k))))=true):(whichK a ts (k+1)).length=(whichK a ts k).length+1:=by rw [whichK_t h,List.length_append];rfl
theorem which_len_f {a:List V2} {ts:List V6} {k:Nat} (h:(!(polysB a (tl (at3 ts k))))=false):(whichK a ts (k+1)).length=(whichK a ts k).length:=by rw [whichK_f h]
theorem which_is {a:List V2} {ts:List V6} {wl:List Nat} (hwl:wl=whichK a ts ts.length):((((nums wl).length:Nat):Int)==0)= !(ts.any fun t=> !(polysB a (tl t))):=by
 subst hwl
 rw [List.length_map]
 cases h:ts.any fun t=> !(polysB a (tl t)) with
 |true=>
  obtain ⟨t,ht,e⟩:=List.any_eq_true.1 h
  obtain ⟨i,hi,rfl⟩:=mem_at3 ht
  obtain ⟨l,e1,h1,_⟩:=which_split a ts hi
  obtain ⟨r,rfl⟩:=h1 (by simpa using e)
  rw [e1]
  simp
  omega
 | false=>
  have h0:whichK a ts ts.length= []:=by
   unfold whichK
   rw [List.filter_eq_nil_iff]
   intro i hi
   have:=List.any_eq_false.1 h (at3 ts i) (by
    unfold at3
    rw [List.getD_eq_getElem?_getD,List.getElem?_eq_getElem (List.mem_range.1 hi)]
    exact List.getElem_mem _)
   exact this
  rw [h0]
  rfl
theorem any_two (l:List V6) (x:V6) (g:V6→Bool):(!((l++ [x]).any g))=((!(l.any g))&&(!([x].any g))):=by
 rw [List.any_append,Bool.not_or]
theorem trs_qb {m:Nat} (hm0:0<m) {ts:List V6} {v:Value} {W:World} (h:(SF.row 18 (trs m ts)).p v W) {i:Nat} (hi:i<ts.length): ∀p,p∈tl (at3 ts i)→QB p.1 m∧QB p.2 m:=by
 obtain ⟨_,_,_,_,_,_,h5⟩:=h
 obtain ⟨b,o,cs,_,_,h6⟩:=h5 i _ (trs_get hi)
 obtain ⟨a,b,c,rfl,_,_,_,h1,h2,h3⟩:=tr_parts h6
 intro p hp
 rcases List.mem_cons.1 hp with rfl|hp
 ·exact pv_qb hm0 (v:= .agg a.toArray) h1
 ·rcases List.mem_cons.1 hp with rfl|hp
  ·exact pv_qb hm0 (v:= .agg b.toArray) h2
  ·obtain rfl:=List.mem_singleton.1 hp
   exact pv_qb hm0 (v:= .agg c.toArray) h3
theorem mov_take {z:V2} {ts:List V6} {k:Nat} (h:k<ts.length):trs 5 ((ts.take (k+1)).map (movT z))=trs 5 ((ts.take k).map (movT z))++ [CU.agg (fTR 5 (movT z (at3 ts k)))]:=by
 unfold trs at3
 rw [List.take_add_one,List.getD_eq_getElem?_getD,List.getElem?_eq_getElem h]
 simp only [List.map_append,Option.toList_some,List.map_cons,List.map_nil,Option.getD_some]
theorem one_tr (m:Nat) (t:V6): ∀C,C∈ [CU.agg (fTR m t)]→CU.ok 18 C:=fun C hC=>by
 obtain rfl:C=_:=by simpa using hC
 exact tr_ok _ _
theorem one_tx (x:TX): ∀C,C∈ [TX.cu x]→CU.ok 18 C:=fun C hC=>by
 obtain rfl:C=_:=by simpa using hC
 exact tg_ok
theorem trs_ok (m:Nat) (ts:List V6): ∀C,C∈trs m ts→CU.ok 18 C:=fun C hC=>by
 obtain ⟨t,_,rfl⟩:=List.mem_map.1 hC
 exact tr_ok _ _
theorem txs_ok (ts:List TX): ∀C,C∈txs ts→CU.ok 18 C:=fun C hC=>by
 obtain ⟨t,_,rfl⟩:=List.mem_map.1 hC
 exact tg_ok
theorem txs_snoc (ts:List TX) (x:TX):txs ts++ [TX.cu x]=txs (ts++ [x]):=by simp [txs]
theorem trs_snoc (m:Nat) (ts:List V6) (x:V6):trs m ts++ [CU.agg (fTR m x)]=trs m (ts++ [x]):=by simp [trs]
theorem free_p {A:List PX} {TS:List TX} {x:TX} {y z:PX} {W:World} {r l u v q:Value} (hr0:(SF.row 6 (pxs A)).p r W) (hl0:(SF.row 18 (txs TS)).p l W) (hx:(TX.u x).p u W) (hy:(PX.u y).p v W) (hz':(PX.u z).p q W) (_:A.length≤1048576) (_: ∀p,p∈A→PX.b p≤1048576) (hn0:TS.length≤1048576) (_: ∀p,p∈TS→TX.b p≤1048576) (_:TX.b x≤1048576) (_:PX.b y≤1048576) (_:PX.b z≤1048576) (hT:Tab W):Calls Tryz.prog 3 #[r,l,u,v,q] W (Ret W (fB true).toSF):=by
 refine run_st [(UF.eq r).toSF,(UF.eq l).toSF,(TX.u x).toSF,(PX.u y).toSF,(PX.u z).toSF] Tryz.func3 rfl (by kernel_rfl) ⟨rfl,rfl,hx,hy,hz',trivial⟩ fun a s=> ?_
 replace s:=s.renew [(0, .u (UF.eq r)),(1, .u (UF.eq l)),(2, .u (TX.u x)),(3, .u (PX.u y)),(4, .u (PX.u z))] (fmz ⟨.inr ⟨_,rfl, .head _⟩,fmz ⟨.inr ⟨_,rfl,mz1⟩,fmz ⟨.inr ⟨_,rfl,mz2⟩,fmz ⟨.inr ⟨_,rfl,mz3⟩,fmz ⟨.inr ⟨_,rfl,mz4⟩,fnz⟩⟩⟩⟩⟩)
 refine wpIn_seq ?_
 refine region_go 0 [] hmix s (by kernel_rfl)
  obs_nil fun a w1 s=> ?_
 refine t_box (TX.cu x) rfl s (by kernel_rfl) (fun v W h=>tg_box h) fun b7 a w s=> ?_
 refine t_box (PX.cu y) rfl s (by kernel_rfl) (fun v W h=>pt_box h) fun b8 a w s=> ?_
 refine t_box (PX.cu z) rfl s (by kernel_rfl) (fun v W h=>pt_box h) fun b9 a w s=> ?_
 refine t_set (UF.eq (.bool false)) rfl s (by kernel_rfl) iiz fun a w s=> ?_
 refine tail_end rfl ?_
 refine wpIn_seq ?_
 refine wpIn_seq ?_
 rcases Bool.eq_false_or_eq_true (gPt A) with eA|eA
 ·have sb:=s;have so:=s.old;have sg:=s.gr.size
  refine rest_in (GW w) hmix s fun w2 hwb s=> ?_
  have hz:=hwb.size
  refine rest_go [] [0,1,2,3,4,5,6,7,8,9,10,11,12,13,14,15,16] ((19, .s ((UF.eq r).toSF))::(20, .s ((UF.eq (.bool true)).toSF))::(21, .s ((UF.eq (.bool true)).toSF))::(29, .s ((UF.eq (.bool true)).toSF))::(30, .s ((UF.eq (.bool true)).toSF))::(35, .u (UF.eq (.bool true))):: []) (gw_gr hwb) s (by kernel_rfl)
   (oc ok_move<|oc (ok_call1 wide_wide en_11 (fun u0 W hb (h0:u0=r)=>(r18great_p (L:=A) (by rw [show _=r from h0];exact (SF.row 6 (pxs A)).st _ _ _ hr0 (s.up hb))).mono (Ret.to (fun v W h=>by rw [eA] at h;exact h))))<|oc ok_move<|oc (ok_guard 21 true (by kernel_rfl) iiz (fun e=>by cases e) (fun _ _=>trivial))<|oc (ok_guard 21 true (by kernel_rfl) iiz (fun e=>by cases e) (fun _ _=>trivial))<|oc (ok_guard 21 true (by kernel_rfl) iiz (fun e=>by cases e) (fun _ _=>trivial))<|oc (ok_guard 21 true (by kernel_rfl) iiz (fun e=>by cases e) (fun _ _=>trivial))<|oc (ok_guard 21 true (by kernel_rfl) iiz (fun e=>by cases e) (fun _ _=>trivial))<|oc (ok_guard 21 true (by kernel_rfl) iiz (fun e=>by cases e) (fun _ _=>trivial))<|oc (ok_guard 21 true (by kernel_rfl) iiz (fun e=>by cases e) (fun _ _=>trivial))<|oc (ok_pick true iiz (fun _ _ _ h=>h) (fun e=>by cases e))<|oc ok_move<|oc (ok_guard 30 true (by kernel_rfl) iiz (fun e=>by cases e) (fun _ _=>trivial))<|oc (ok_guard 30 true (by kernel_rfl) iiz (fun e=>by cases e) (fun _ _=>trivial))<|oc (ok_guard 30 true (by kernel_rfl) iiz (fun e=>by cases e) (fun _ _=>trivial))<|oc (ok_guard 30 true (by kernel_rfl) iiz (fun e=>by cases e) (fun _ _=>trivial))<|oc (ok_pick true iiz (fun _ _ _ h=>h) (fun e=>by cases e))<|obs_nil)
   (fdl_nil) fun a w3 hbw s hr=> ?_
  replace hwb:=hwb.trans (hbw.mono hwb.size)
  refine rest_end (by kernel_rfl) ?_
  refine StS.cond s true iiz (fun e=> ?_) (fun e=>by cases e)
  refine wpIn_seq ?_
  replace s:=s.drop [10]
  refine region_go 2 ((36, .s ((UF.eq (.bool true)).toSF))::(10, .u (UF.eq (.bool true))):: []) hmix s (by kernel_rfl)
   (oc (ok_call0 wide_wide en_13 (fun W hb=>wakes18 (hT.below (s.up hb))))<|oc (ok_assign)<|obs_nil) fun a w4 s=> ?_
  refine tail_end rfl ?_
  refine wpIn_ret ?_
  exact StS.res1 s (t:=10) rfl iiz
 ·have sb:=s;have so:=s.old;have sg:=s.gr.size
  refine rest_in (GW w) hmix s fun w5 hwb s=> ?_
  have hz:=hwb.size
  refine rest_go [] [0,1,2,3,4,5,6,7] ((19, .s ((UF.eq r).toSF))::(20, .s ((UF.eq (.bool false)).toSF))::(21, .u (UF.eq (.bool false)))::(22, .s (SF.emp w5 33))::(23, .s ((UF.eq l).toSF))::(24, .s (SF.newRow w5 33 18 (txs TS)))::(25, .s ((TX.u x).toSF))::(26, .s (SF.row 18 [TX.cu x])):: []) (gw_gr hwb) s (by kernel_rfl)
   (oc ok_move<|oc (ok_call1 wide_wide en_11 (fun u0 W hb (h0:u0=r)=>(r18great_p (L:=A) (by rw [show _=r from h0];exact (SF.row 6 (pxs A)).st _ _ _ hr0 (s.up hb))).mono (Ret.to (fun v W h=>by rw [eA] at h;exact h))))<|oc ok_move<|oc (ok_guard 21 false (by kernel_rfl) iiz (fun _=>ok_slice0 (z:=18) (by kernel_rfl)) (fun e=>absurd rfl e))<|oc (ok_guard 21 false (by kernel_rfl) iiz (fun _=>ok_move) (fun e=>absurd rfl e))<|oc (ok_guard 21 false (by kernel_rfl) iiz (fun _=>ok_appE (txs TS) (by kernel_rfl) iiz (fun v W hb h=>(by rw [show _=l from h];exact (SF.row 18 (txs TS)).st _ _ _ hl0 (s.up hb))) (txs_ok _) (by simp;omega)) (fun e=>absurd rfl e))<|oc (ok_guard 21 false (by kernel_rfl) iiz (fun _=>ok_ldW (f:=TX.u x) 18 (by kernel_rfl) (hz:=tg_len)) (fun e=>absurd rfl e))<|oc (ok_guard 21 false (by kernel_rfl) iiz (fun _=>ok_slice1 (fun u W (hu:(TX.u x).p u W)=>sl_tg1 hu)) (fun e=>absurd rfl e))<|obs_nil)
   (fdl_nil) fun a w6 hbw s hr=> ?_
  replace hwb:=hwb.trans (hbw.mono hwb.size)
  refine rest_app (i:=8) (x:= .tmp 24) (y:= .tmp 26) ([TX.cu x]) hwb s sg (RowN.mono (hr (_,_) mz5) hz) rfl (wanted_at (k:=0) (j:=2) (want:=false) rfl (s.val (.head _))) (by kernel_rfl) (by kernel_rfl) (by kernel_rfl) rfl (hr (_,_) mz7) (one_tx _) (by simp;omega) so fun v27 a w7 hwb hN27 s=> ?_
  have hR27:=hN27.row
  rw [txs_snoc] at hR27
  have hz:=hwb.size
  refine rest_go [] [9,10,11,12,13,14,15,16] ((28, .s ((UF.eq (.bool (gTr (TS++ [x])))).toSF))::(29, .s ((UF.eq (.bool (gTr (TS++ [x])))).toSF))::(30, .s ((UF.eq (.bool (gTr (TS++ [x])))).toSF))::(31, .s (SF.imp ((gTr (TS++ [x]))=false) ((PX.u y).toSF)))::(32, .s (SF.imp ((gTr (TS++ [x]))=false) ((PX.u z).toSF)))::(33, .s (SF.imp ((gTr (TS++ [x]))=false) (SF.row 6 (pxs [y,z]))))::(34, .s (SF.imp ((gTr (TS++ [x]))=false) ((UF.eq (.bool (gPt [y,z]))).toSF)))::(35, .u (UF.eq (.bool ((gTr (TS++ [x]))||(gPt [y,z]))))):: []) (gw_gr hwb) s (by kernel_rfl)
   (oc (ok_guard 21 false (by kernel_rfl) iiz (fun _=>ok_call1 wide_wide en_12 (fun u0 W hb (h0:u0=v27)=>r18gtris_p (L:=TS++ [x]) (by rw [show _=v27 from h0];exact (SF.row 18 (txs (TS++ [x]))).st _ _ _ hR27 hb))) (fun e=>absurd rfl e))<|oc (ok_pick false iiz (fun e=>by cases e) (fun _ _ _ h=>h))<|oc ok_move<|oc (ok_guard 30 (gTr (TS++ [x])) (by kernel_rfl) iiz (fun e=>gd_imp [] ((PX.u y).toSF) (fnz) (fun _ _ h _=>h) (by kernel_rfl) (ok_ldW (f:=PX.u y) 6 (by kernel_rfl) (hz:=pt_len _ _))) (fun e W h=>absurd h e))<|oc (ok_guard 30 (gTr (TS++ [x])) (by kernel_rfl) iiz (fun e=>gd_imp [] ((PX.u z).toSF) (fnz) (fun _ _ h _=>h) (by kernel_rfl) (ok_ldW (f:=PX.u z) 6 (by kernel_rfl) (hz:=pt_len _ _))) (fun e W h=>absurd h e))<|oc (ok_guard 30 (gTr (TS++ [x])) (by kernel_rfl) iiz (fun e=>gd_imp [(31,(PX.u y).toSF),(32,(PX.u z).toSF)] (SF.row 6 (pxs [y,z])) (fmz ⟨fun v W h=>imp_app (c:=(gTr (TS++ [x]))=false) (f:=(PX.u y).toSF) e h,fmz ⟨fun v W h=>imp_app (c:=(gTr (TS++ [x]))=false) (f:=(PX.u z).toSF) e h,fnz⟩⟩) (fun _ _ h _=>h) (by kernel_rfl) (ok_slice2 (fun u v W (hu:(PX.u y).p u W) (hv:(PX.u z).p v W)=>sl_pt2 hu hv))) (fun e W h=>absurd h e))<|oc (ok_guard 30 (gTr (TS++ [x])) (by kernel_rfl) iiz (fun e=>gd_imp [(33,SF.row 6 (pxs [y,z]))] ((UF.eq (.bool (gPt [y,z]))).toSF) (fmz ⟨fun v W h=>imp_app (c:=(gTr (TS++ [x]))=false) (f:=SF.row 6 (pxs [y,z])) e h,fnz⟩) (fun _ _ h _=>h) (by kernel_rfl) (ok_call1 wide_wide en_11 (fun u0 W hb (h0:(SF.row 6 (pxs [y,z])).p u0 W)=>r18great_p (L:= [y,z]) h0))) (fun e W h=>absurd h e))<|oc (ok_pick (gTr (TS++ [x])) iiz (fun e v W h=>pick_or h e) (fun e v W h=>pick_or' (imp_app e h) e))<|obs_nil)
   (fdl_nil) fun a w8 hbw s hr=> ?_
  replace hwb:=hwb.trans (hbw.mono hwb.size)
  refine rest_end (by kernel_rfl) ?_
  refine StS.cond s ((gTr (TS++ [x]))||(gPt [y,z])) iiz (fun e=> ?_) (fun e=> ?_)
  ·refine wpIn_seq ?_
   replace s:=s.drop [10]
   refine region_go 2 ((36, .s ((UF.eq (.bool true)).toSF))::(10, .u (UF.eq (.bool true))):: []) hmix s (by kernel_rfl)
    (oc (ok_call0 wide_wide en_13 (fun W hb=>wakes18 (hT.below (s.up hb))))<|oc (ok_assign)<|obs_nil) fun a w9 s=> ?_
   refine tail_end rfl ?_
   refine wpIn_ret ?_
   exact StS.res1 s (t:=10) rfl iiz
  ·rw [Bool.or_eq_false_iff] at e
   obtain ⟨eT,eyz⟩:=e
   have hA:=pxs_pvs eA r W hr0
   have hTf:=gTr_f eT
   have hTS:=txs_trs (L:=TS) (fun q hq=>hTf.2 q (by simp [hq])) l W hl0
   have hx9:=hTf.2 x (by simp)
   have hy9:=(gPt_f eyz).2 y (by simp)
   have hz9:=(gPt_f eyz).2 z (by simp)
   have hyq:=pv_qb (by decide) (px_pv hy9 hy)
   have hzq:=pv_qb (by decide) (px_pv hz9 hz')
   have hyz:QB (addV y.p z.p).1 5∧QB (addV y.p z.p).2 5:=⟨(hyq.1.add hzq.1).mono (by decide),(hyq.2.add hzq.2).mono (by decide)⟩
   have hnA:(pps A).length≤1000000:=by have:=(gPt_f eA).1;simp;omega
   have hlT:=hTf.1
   simp only [List.length_append,List.length_cons,List.length_nil] at hlT
   have hTl:(tts TS).length=TS.length:=by simp
   have hnT:(tts TS).length≤1000000:=by omega
   have hsA:=shift_qb (pvs_qb (m:=2) (by decide) hA) hyq
   obtain ⟨g,hg⟩: ∃g:V6→Bool,g=fun t=> !(polysB (shiftV (pps A) y.p) (tl t)):=⟨_,rfl⟩
   obtain ⟨wl,hwl⟩: ∃wl,wl=whichK (shiftV (pps A) y.p) (tts TS) (tts TS).length:=⟨_,rfl⟩
   refine wpIn_skip ?_
   refine wpIn_seq ?_
   refine region_go 5 ((37, .s ((UF.eq r).toSF))::(38, .s ((UF.eq l).toSF))::(39, .s ((fPV (2) (y.p)).toSF))::(40, .s ((UF.eq (.bool (!((tts TS).any g)))).toSF))::(11, .u (UF.eq (.bool (!((tts TS).any g))))):: []) hmix s (by kernel_rfl)
    (oc ok_move<|oc ok_move<|oc (ok_loadA (C:=(PX.cu y).cf) 6 (by kernel_rfl) (fun _ _ h=>h.2) (px_whole hy9))<|oc (ok_call3 wide_wide en_14 (fun u0 u1 u2 W hb (h0:u0=r) (h1:u1=l) (h2:(fPV (2) (y.p)).p u2 W)=>(afree_p (m:=2) (rs:=pps A) (ts:=tts TS) (p:=y.p) (by rw [show _=r from h0];exact (SF.row 6 (pvs (2) (pps A))).st _ _ _ hA (s.up hb)) (by rw [show _=l from h1];exact (SF.row 18 (trs 2 (tts TS))).st _ _ _ hTS (s.up hb)) h2 (by decide) (by decide) hnA hnT (hT.below (s.up hb))).mono (Ret.to (fun v W h=>by rw [←hg] at h;exact h))))<|oc (ok_assign)<|obs_nil) fun a w10 s=> ?_
   refine tail_end rfl ?_
   refine wpIn_seq ?_
   refine region_goN 4 ((41, .s ((UF.eq r).toSF))::(42, .s ((UF.eq l).toSF))::(43, .s ((fPV (2) (y.p)).toSF))::(44, .s (SF.newRow w10 3 1 (nums wl))):: []) hmix s (by kernel_rfl)
    (oc ok_move<|oc ok_move<|oc (ok_loadA (C:=(PX.cu y).cf) 6 (by kernel_rfl) (fun _ _ h=>h.2) (px_whole hy9))<|oc (ok_call3 wide_wide en_15 (fun u0 u1 u2 W hb (h0:u0=r) (h1:u1=l) (h2:(fPV (2) (y.p)).p u2 W)=>(awhich_p (m:=2) (rs:=pps A) (ts:=tts TS) (p:=y.p) (by rw [show _=r from h0];exact (SF.row 6 (pvs (2) (pps A))).st _ _ _ hA (s.up hb)) (by rw [show _=l from h1];exact (SF.row 18 (trs 2 (tts TS))).st _ _ _ hTS (s.up hb)) h2 (by decide) (by decide) hnA hnT (hT.below (s.up hb))).mono (Ret.to (fun v W h=>newRow_old hb.size v W (by rw [←hwl] at h;exact h)))))<|obs_nil) fun a w11 s hr=> ?_
   obtain ⟨v44,e44⟩: ∃v,a.tmps.getD 44 undef=v:=⟨_,rfl⟩
   have hv44:(SF.row 1 (nums wl)).p v44 w11:=e44▸newRow_row _ _ (hr (_,_) mz3)
   replace s:=s.learn 44 v44 e44
   have hb0:=s.below
   replace hT:=hT.below hb0
   replace hA:=(SF.row 6 _).st _ _ _ hA hb0
   replace hTS:=(SF.row 18 _).st _ _ _ hTS hb0
   replace s:StS _ _ _ [⟨9,31,PX.cu z,b9,true⟩,⟨8,31,PX.cu y,b8,true⟩,⟨7,33,TX.cu x,b7,true⟩] _ _ _ _:=s.freeze
   replace s:=s.reb rfl [(44, .u (UF.eq (v44))),(11, .u (UF.eq (.bool (!((tts TS).any g))))),(35, .u (UF.eq (.bool ((gTr (TS++ [x]))||(gPt [y,z]))))),(27, .u (UF.eq v27)),(21, .u (UF.eq (.bool false))),(10, .u (UF.eq (.bool false))),(0, .u (UF.eq r)),(1, .u (UF.eq l)),(2, .u (TX.u x)),(3, .u (PX.u y)),(4, .u (PX.u z))] (fmz ⟨.inl (.head _),fmz ⟨.inl mz1,fmz ⟨.inl mz2,fmz ⟨.inl mz3,fmz ⟨.inl mz4,fmz ⟨.inl mz5,fmz ⟨.inl mz6,fmz ⟨.inl mz7,fmz ⟨.inl mz8,fmz ⟨.inl mz9,fmz ⟨.inl mz10,fnz⟩⟩⟩⟩⟩⟩⟩⟩⟩⟩⟩)
   refine t_set (UF.eq v44) rfl s (by kernel_rfl) iiz fun a w s=> ?_
   refine tail_end rfl ?_
   refine wpIn_seq ?_
   refine wpIn_seq ?_
   refine region_go 5 ((45, .s ((UF.eq (.bool (!((tts TS).any g)))).toSF))::(46, .s ((UF.eq v44).toSF))::(47, .s ((UF.eq (.int .i64 ((((nums wl).length:Nat):Int)))).toSF))::(48, .s ((UF.eq (.bool (!((tts TS).any g)))).toSF))::(49, .u (UF.eq (.bool false))):: []) hmix s (by kernel_rfl)
    (oc ok_move<|oc ok_move<|oc (ok_lenB (z:=1) (Cs:=nums wl) (by kernel_rfl) (fun v W hb h=>(by rw [show _=v44 from h];exact (SF.row 1 (nums wl)).st _ _ _ hv44 (s.up hb))) (fun _=>rfl))<|oc (ok_cmpI .i64 ((((nums wl).length:Nat):Int)) (0) (!((tts TS).any g)) iiz iiz (by rw [hg];exact which_is hwl) rfl)<|oc (ok_cmpB (!((tts TS).any g)) (!((tts TS).any g)) false (by kernel_rfl) iiz iiz (bne_self_eq_false _) rfl)<|obs_nil) fun a w12 s=> ?_
   refine tail_end rfl ?_
   refine StS.cond s false iiz (fun e=>by cases e) (fun e=> ?_)
   refine wpIn_skip ?_
   refine wpIn_seq ?_
   refine region_go 1 ((13, .u (UF.eq (.slice none 0 0))):: []) hmix s (by kernel_rfl)
    (oc (ok_assign)<|obs_nil) fun a w13 s=> ?_
   refine tail_end rfl ?_
   refine wpIn_seq ?_
   refine region_go 1 ((14, .u (UF.eq (.int .i64 (0)))):: []) hmix s (by kernel_rfl)
    (oc (ok_assign)<|obs_nil) fun a w14 s=> ?_
   refine tail_end rfl ?_
   refine wpIn_seq ?_
   refine wpIn_seq ?_
   refine region_go 1 ((15, .u (UF.eq (.int .i64 (0)))):: []) hmix s (by kernel_rfl)
    (oc (ok_assign)<|obs_nil) fun a w15 s=> ?_
   refine tail_end rfl ?_
   refine wpIn_block ?_
   obtain ⟨base,hbase⟩: ∃b,b=w15.heap.size:=⟨_,rfl⟩
   have hbb: ∀q,q∈ [(⟨9,31,PX.cu z,b9,true⟩:Bx),(⟨8,31,PX.cu y,b8,true⟩:Bx),(⟨7,33,TX.cu x,b7,true⟩:Bx)]→q.r=true→q.b<base:=fun q hq _=>by rw [hbase];exact s.old q hq
   have hb1:=s.gr.size
   have hb0':_≤base:=hbase▸hb1
   have hsz0:base≤w15.heap.size:=by rw [hbase];exact Nat.le_refl _
   refine st_rows (fun (p:Nat×Value) w=>p.1≤(tts TS).length∧base≤w.heap.size∧RowN w base 33 18 p.2 (trs 5 (((tts TS).take p.1).map (movT z.p)))) (fun p=> [(0, .u (UF.eq r)),(1, .u (UF.eq l)),(11, .u (UF.eq (.bool (!((tts TS).any g))))),(12, .u (UF.eq v44)),(13, .u (UF.eq (p.2))),(14, .u (UF.eq (.int .i64 ((((whichK (shiftV (pps A) y.p) (tts TS) (p.1)).length:Nat):Int))))),(15, .u (UF.eq (.int .i64 (((p.1:Nat):Int)))))]) (fun p=>(tts TS).length - p.1) ((0, .slice none 0 0)) (⟨Nat.zero_le _,hsz0,RowN.nil _ _ _ _⟩) (s.keepK _ (fmz ⟨mz11,fmz ⟨mz12,fmz ⟨mz6,fmz ⟨mz4,fmz ⟨mz2,fmz ⟨mz1,fmz ⟨.head _,fnz⟩⟩⟩⟩⟩⟩⟩)) fun p a w hI s=> ?_
   have s0:=s
   have hAw:=(SF.row 6 _).st _ _ _ hA s0.below
   have hTw:=(SF.row 18 _).st _ _ _ hTS s0.below
   have hWw:=(SF.row 1 _).st _ _ _ hv44 s0.below
   have hT0:=hT
   have hT:=hT0.below s0.below
   replace s:=s.reb rfl [(0, .u (UF.eq r)),(1, .u (UF.eq l)),(11, .u (UF.eq (.bool (!((tts TS).any g))))),(12, .u (UF.eq v44)),(13, .u (UF.eq (p.2))),(14, .u (UF.eq (.int .i64 ((((whichK (shiftV (pps A) y.p) (tts TS) (p.1)).length:Nat):Int))))),(15, .u (UF.eq (.int .i64 (((p.1:Nat):Int)))))] (fmz ⟨.inl (.head _),fmz ⟨.inl mz1,fmz ⟨.inl mz2,fmz ⟨.inl mz3,fmz ⟨.inl mz4,fmz ⟨.inl mz5,fmz ⟨.inl mz6,fnz⟩⟩⟩⟩⟩⟩⟩)
   refine wpIn_seq ?_
   refine wpIn_seq ?_
   refine region_go 4 ((50, .s ((UF.eq (.int .i64 (((p.1:Nat):Int)))).toSF))::(51, .s ((UF.eq l).toSF))::(52, .s ((UF.eq (.int .i64 ((((trs 2 (tts TS)).length:Nat):Int)))).toSF))::(53, .u (UF.eq (.bool (decide (((p.1:Nat):Int)<(((trs 2 (tts TS)).length:Nat):Int)))))):: []) hmix s (by kernel_rfl)
    (oc ok_move<|oc ok_move<|oc (ok_lenB (z:=18) (Cs:=trs 2 (tts TS)) (by kernel_rfl) (fun v W hb h=>(by rw [show _=l from h];exact (SF.row 18 (trs 2 (tts TS))).st _ _ _ hTw (s.up hb))) (fun _=>rfl))<|oc (ok_cmpI .i64 (((p.1:Nat):Int)) ((((trs 2 (tts TS)).length:Nat):Int)) (decide (((p.1:Nat):Int)<(((trs 2 (tts TS)).length:Nat):Int))) iiz iiz rfl rfl)<|obs_nil) fun a w16 s=> ?_
   refine tail_end rfl ?_
   refine StS.cond s (decide (((p.1:Nat):Int)<(((trs 2 (tts TS)).length:Nat):Int))) iiz (fun e=> ?_) (fun e=> ?_)
   ·have hk:p.1<(tts TS).length:=by have:=of_decide_eq_true e;simp at this;omega
    have hkk:=whichK_len (shiftV (pps A) y.p) (tts TS) p.1
    refine wpIn_skip ?_
    refine wpIn_seq ?_
    refine wpIn_block ?_
    refine wpIn_seq ?_
    refine region_go 13 ((56, .s ((UF.eq (.int .i64 ((((whichK (shiftV (pps A) y.p) (tts TS) (p.1)).length:Nat):Int)))).toSF))::(57, .s ((UF.eq v44).toSF))::(58, .s ((UF.eq (.int .i64 ((((nums wl).length:Nat):Int)))).toSF))::(59, .s ((UF.eq (.bool (decide ((((whichK (shiftV (pps A) y.p) (tts TS) (p.1)).length:Nat):Int)<(((nums wl).length:Nat):Int))))).toSF))::(60, .s ((UF.eq (.bool (decide ((((whichK (shiftV (pps A) y.p) (tts TS) (p.1)).length:Nat):Int)<(((nums wl).length:Nat):Int))))).toSF))::(61, .s (SF.imp ((decide ((((whichK (shiftV (pps A) y.p) (tts TS) (p.1)).length:Nat):Int)<(((nums wl).length:Nat):Int)))=true) ((UF.eq v44).toSF)))::(62, .s (SF.imp ((decide ((((whichK (shiftV (pps A) y.p) (tts TS) (p.1)).length:Nat):Int)<(((nums wl).length:Nat):Int)))=true) ((UF.eq (.int .i64 ((((whichK (shiftV (pps A) y.p) (tts TS) (p.1)).length:Nat):Int)))).toSF)))::(63, .s (SF.imp ((decide ((((whichK (shiftV (pps A) y.p) (tts TS) (p.1)).length:Nat):Int)<(((nums wl).length:Nat):Int)))=true) (SF.ptr (CU.is [.int .i64 (((wl.getD ((whichK (shiftV (pps A) y.p) (tts TS) (p.1)).length) 0:Nat)):Int)]).cf)))::(64, .s (SF.imp ((decide ((((whichK (shiftV (pps A) y.p) (tts TS) (p.1)).length:Nat):Int)<(((nums wl).length:Nat):Int)))=true) ((UF.eq (.int .i64 (((wl.getD ((whichK (shiftV (pps A) y.p) (tts TS) (p.1)).length) 0:Nat):Int)))).toSF)))::(65, .s (SF.imp ((decide ((((whichK (shiftV (pps A) y.p) (tts TS) (p.1)).length:Nat):Int)<(((nums wl).length:Nat):Int)))=true) ((UF.eq (.int .i64 (((p.1:Nat):Int)))).toSF)))::(66, .s (SF.imp ((decide ((((whichK (shiftV (pps A) y.p) (tts TS) (p.1)).length:Nat):Int)<(((nums wl).length:Nat):Int)))=true) ((UF.eq (.bool (((wl.getD ((whichK (shiftV (pps A) y.p) (tts TS) (p.1)).length) 0:Nat):Int)==((p.1:Nat):Int)))).toSF)))::(67, .s ((UF.eq (.bool ((decide ((((whichK (shiftV (pps A) y.p) (tts TS) (p.1)).length:Nat):Int)<(((nums wl).length:Nat):Int)))&&(((wl.getD ((whichK (shiftV (pps A) y.p) (tts TS) (p.1)).length) 0:Nat):Int)==((p.1:Nat):Int))))).toSF))::(16, .u (UF.eq (.bool (g (at3 (tts TS) p.1))))):: []) hmix s (by kernel_rfl)
     (oc ok_move<|oc ok_move<|oc (ok_lenB (z:=1) (Cs:=nums wl) (by kernel_rfl) (fun v W hb h=>(by rw [show _=v44 from h];exact (SF.row 1 (nums wl)).st _ _ _ hWw (s.up hb))) (fun _=>rfl))<|oc (ok_cmpI .i64 ((((whichK (shiftV (pps A) y.p) (tts TS) (p.1)).length:Nat):Int)) ((((nums wl).length:Nat):Int)) (decide ((((whichK (shiftV (pps A) y.p) (tts TS) (p.1)).length:Nat):Int)<(((nums wl).length:Nat):Int))) iiz iiz rfl rfl)<|oc ok_move<|oc (ok_guard 60 (decide ((((whichK (shiftV (pps A) y.p) (tts TS) (p.1)).length:Nat):Int)<(((nums wl).length:Nat):Int))) (by kernel_rfl) iiz (fun e=>gd_imp [] ((UF.eq v44).toSF) (fnz) (fun _ _ h _=>h) (by kernel_rfl) (ok_move)) (fun e W h=>absurd h e))<|oc (ok_guard 60 (decide ((((whichK (shiftV (pps A) y.p) (tts TS) (p.1)).length:Nat):Int)<(((nums wl).length:Nat):Int))) (by kernel_rfl) iiz (fun e=>gd_imp [] ((UF.eq (.int .i64 ((((whichK (shiftV (pps A) y.p) (tts TS) (p.1)).length:Nat):Int)))).toSF) (fnz) (fun _ _ h _=>h) (by kernel_rfl) (ok_move)) (fun e W h=>absurd h e))<|oc (ok_guard 60 (decide ((((whichK (shiftV (pps A) y.p) (tts TS) (p.1)).length:Nat):Int)<(((nums wl).length:Nat):Int))) (by kernel_rfl) iiz (fun e=>gd_imp [(61,(UF.eq v44).toSF),(62,(UF.eq (.int .i64 ((((whichK (shiftV (pps A) y.p) (tts TS) (p.1)).length:Nat):Int)))).toSF)] (SF.ptr (CU.is [.int .i64 (((wl.getD ((whichK (shiftV (pps A) y.p) (tts TS) (p.1)).length) 0:Nat)):Int)]).cf) (fmz ⟨fun v W h=>imp_app (c:=(decide ((((whichK (shiftV (pps A) y.p) (tts TS) (p.1)).length:Nat):Int)<(((nums wl).length:Nat):Int)))=true) (f:=(UF.eq v44).toSF) e h,fmz ⟨fun v W h=>imp_app (c:=(decide ((((whichK (shiftV (pps A) y.p) (tts TS) (p.1)).length:Nat):Int)<(((nums wl).length:Nat):Int)))=true) (f:=(UF.eq (.int .i64 ((((whichK (shiftV (pps A) y.p) (tts TS) (p.1)).length:Nat):Int)))).toSF) e h,fnz⟩⟩) (fun _ _ h _=>h) (by kernel_rfl) (ok_indexB (z:=1) (Cs:=nums wl) (i:=(whichK (shiftV (pps A) y.p) (tts TS) (p.1)).length) (C:=CU.is [.int .i64 (((wl.getD ((whichK (shiftV (pps A) y.p) (tts TS) (p.1)).length) 0:Nat)):Int)]) (by kernel_rfl) (nums_get e) (fun v W hb h=>(by rw [show _=v44 from h];exact (SF.row 1 (nums wl)).st _ _ _ hWw (s.up hb))) iiz)) (fun e W h=>absurd h e))<|oc (ok_guard 60 (decide ((((whichK (shiftV (pps A) y.p) (tts TS) (p.1)).length:Nat):Int)<(((nums wl).length:Nat):Int))) (by kernel_rfl) iiz (fun e=>gd_imp [(63,SF.ptr (CU.is [.int .i64 (((wl.getD ((whichK (shiftV (pps A) y.p) (tts TS) (p.1)).length) 0:Nat)):Int)]).cf)] ((UF.eq (.int .i64 (((wl.getD ((whichK (shiftV (pps A) y.p) (tts TS) (p.1)).length) 0:Nat):Int)))).toSF) (fmz ⟨fun v W h=>imp_app (c:=(decide ((((whichK (shiftV (pps A) y.p) (tts TS) (p.1)).length:Nat):Int)<(((nums wl).length:Nat):Int)))=true) (f:=SF.ptr (CU.is [.int .i64 (((wl.getD ((whichK (shiftV (pps A) y.p) (tts TS) (p.1)).length) 0:Nat)):Int)]).cf) e h,fnz⟩) (fun _ _ h _=>h) (by kernel_rfl) (ok_load1 (C:=(CU.is [.int .i64 (((wl.getD ((whichK (shiftV (pps A) y.p) (tts TS) (p.1)).length) 0:Nat)):Int)]).cf) (by kernel_rfl) iiz (is_get))) (fun e W h=>absurd h e))<|oc (ok_guard 60 (decide ((((whichK (shiftV (pps A) y.p) (tts TS) (p.1)).length:Nat):Int)<(((nums wl).length:Nat):Int))) (by kernel_rfl) iiz (fun e=>gd_imp [] ((UF.eq (.int .i64 (((p.1:Nat):Int)))).toSF) (fnz) (fun _ _ h _=>h) (by kernel_rfl) (ok_move)) (fun e W h=>absurd h e))<|oc (ok_guard 60 (decide ((((whichK (shiftV (pps A) y.p) (tts TS) (p.1)).length:Nat):Int)<(((nums wl).length:Nat):Int))) (by kernel_rfl) iiz (fun e=>gd_imp [(64,(UF.eq (.int .i64 (((wl.getD ((whichK (shiftV (pps A) y.p) (tts TS) (p.1)).length) 0:Nat):Int)))).toSF),(65,(UF.eq (.int .i64 (((p.1:Nat):Int)))).toSF)] ((UF.eq (.bool (((wl.getD ((whichK (shiftV (pps A) y.p) (tts TS) (p.1)).length) 0:Nat):Int)==((p.1:Nat):Int)))).toSF) (fmz ⟨fun v W h=>imp_app (c:=(decide ((((whichK (shiftV (pps A) y.p) (tts TS) (p.1)).length:Nat):Int)<(((nums wl).length:Nat):Int)))=true) (f:=(UF.eq (.int .i64 (((wl.getD ((whichK (shiftV (pps A) y.p) (tts TS) (p.1)).length) 0:Nat):Int)))).toSF) e h,fmz ⟨fun v W h=>imp_app (c:=(decide ((((whichK (shiftV (pps A) y.p) (tts TS) (p.1)).length:Nat):Int)<(((nums wl).length:Nat):Int)))=true) (f:=(UF.eq (.int .i64 (((p.1:Nat):Int)))).toSF) e h,fnz⟩⟩) (fun _ _ h _=>h) (by kernel_rfl) (ok_cmpI .i64 (((wl.getD ((whichK (shiftV (pps A) y.p) (tts TS) (p.1)).length) 0:Nat):Int)) (((p.1:Nat):Int)) (((wl.getD ((whichK (shiftV (pps A) y.p) (tts TS) (p.1)).length) 0:Nat):Int)==((p.1:Nat):Int)) iiz iiz rfl rfl)) (fun e W h=>absurd h e))<|oc (ok_pick (decide ((((whichK (shiftV (pps A) y.p) (tts TS) (p.1)).length:Nat):Int)<(((nums wl).length:Nat):Int))) iiz (fun e v W h=>pick_and (imp_app e h) e) (fun e v W h=>pick_and' h e))<|oc (ok_assign (fun v W _ h=>by rw [there_eq hwl hk] at h;rw [show g (at3 (tts TS) p.1)= !(polysB (shiftV (pps A) y.p) (tl (at3 (tts TS) p.1))) by rw [hg]];exact h))<|obs_nil) fun a w17 s=> ?_
    refine tail_end rfl ?_
    refine wpIn_seq ?_
    refine wpIn_seq ?_
    refine region_go 1 ((68, .u (UF.eq (.bool (g (at3 (tts TS) p.1))))):: []) hmix s (by kernel_rfl)
     (oc ok_move<|obs_nil) fun a w18 s=> ?_
    refine tail_end rfl ?_
    refine StS.join s [(14, .u (UF.eq (.int .i64 ((((whichK (shiftV (pps A) y.p) (tts TS) (p.1+1)).length:Nat):Int))))),(68, .u (UF.eq (.bool (g (at3 (tts TS) p.1))))),(16, .u (UF.eq (.bool (g (at3 (tts TS) p.1))))),(53, .u (UF.eq (.bool (decide (((p.1:Nat):Int)<(((trs 2 (tts TS)).length:Nat):Int)))))),(0, .u (UF.eq r)),(1, .u (UF.eq l)),(11, .u (UF.eq (.bool (!((tts TS).any g))))),(12, .u (UF.eq v44)),(13, .u (UF.eq (p.2))),(15, .u (UF.eq (.int .i64 (((p.1:Nat):Int)))))] ?_ fun a w s=> ?_
    ·refine StS.cond s (g (at3 (tts TS) p.1)) iiz (fun e=> ?_) (fun e=> ?_)
     ·have e':=e
      rw [hg] at e'
      have hlt:=which_len_t e'
      refine region_goS 2 ((69, .s ((UF.eq (.int .i64 ((((whichK (shiftV (pps A) y.p) (tts TS) (p.1)).length:Nat):Int)))).toSF))::(70, .u (UF.eq (.int .i64 ((((whichK (shiftV (pps A) y.p) (tts TS) (p.1+1)).length:Nat):Int))))):: []) s (by kernel_rfl)
       (oc ok_move<|oc (ok_addI .i64 ((((whichK (shiftV (pps A) y.p) (tts TS) (p.1)).length:Nat):Int)) (1) ((((whichK (shiftV (pps A) y.p) (tts TS) (p.1+1)).length:Nat):Int)) iiz iiz (wrap64 _ _ (by omega) (by omega)))<|obs_nil) fun a w19 s=> ?_
      replace s:=s.drop [14]
      refine t_set (UF.eq (.int .i64 ((((whichK (shiftV (pps A) y.p) (tts TS) (p.1+1)).length:Nat):Int)))) rfl s (by kernel_rfl) iiz fun a w s=> ?_
      refine tail_end rfl ?_
      exact s.keepK _ (fmz ⟨.head _,fmz ⟨mz2,fmz ⟨mz3,fmz ⟨mz4,fmz ⟨mz5,fmz ⟨mz6,fmz ⟨mz7,fmz ⟨mz8,fmz ⟨mz9,fmz ⟨mz10,fnz⟩⟩⟩⟩⟩⟩⟩⟩⟩⟩)
     ·have e':=e
      rw [hg] at e'
      have hlf:=which_len_f e'
      rw [←hlf] at s
      refine wpIn_skip ?_
      exact s.keepK _ (fmz ⟨mz8,fmz ⟨.head _,fmz ⟨mz1,fmz ⟨mz2,fmz ⟨mz3,fmz ⟨mz4,fmz ⟨mz5,fmz ⟨mz6,fmz ⟨mz7,fmz ⟨mz9,fnz⟩⟩⟩⟩⟩⟩⟩⟩⟩⟩)
    ·refine wpIn_seq ?_
     refine wpIn_seq ?_
     refine region_go 11 ((71, .s ((UF.eq (.bool (g (at3 (tts TS) p.1)))).toSF))::(72, .s ((UF.eq r).toSF))::(73, .s ((fPV (2) (y.p)).toSF))::(74, .s (SF.row 6 (pns (shiftV (pps A) y.p))))::(75, .s ((UF.eq l).toSF))::(76, .s ((UF.eq (.int .i64 (((p.1:Nat):Int)))).toSF))::(77, .s (SF.ptr (CU.agg (fTR (2) ((at3 (tts TS) p.1)))).cf))::(78, .s ((fTR (2) ((at3 (tts TS) p.1))).toSF))::(79, .s (SF.row 6 (pvs (2) (tl (at3 (tts TS) p.1)))))::(80, .s ((UF.eq (.bool (polysB (shiftV (pps A) y.p) (tl (at3 (tts TS) p.1))))).toSF))::(81, .u (UF.eq (.bool false))):: []) hmix s (by kernel_rfl)
      (oc ok_move<|oc ok_move<|oc (ok_loadA (C:=(PX.cu y).cf) 6 (by kernel_rfl) (fun _ _ h=>h.2) (px_whole hy9))<|oc (ok_call2 wide_wide en_17 (fun u0 u1 W hb (h0:u0=r) (h1:(fPV (2) (y.p)).p u1 W)=>(ashift_p (m:=2) (t:=y.p) (ps:=pps A) (by rw [show _=r from h0];exact (SF.row 6 (pvs (2) (pps A))).st _ _ _ hAw (s.up hb)) h1 (by decide) (by decide) hnA (hT.below (s.up hb))).mono (Ret.to newRow_row)))<|oc ok_move<|oc ok_move<|oc (ok_indexB (z:=18) (Cs:=trs 2 (tts TS)) (i:=p.1) (C:=CU.agg (fTR (2) ((at3 (tts TS) p.1)))) (by kernel_rfl) (trs_get hk) (fun v W hb h=>(by rw [show _=l from h];exact (SF.row 18 (trs 2 (tts TS))).st _ _ _ hTw (s.up hb))) iiz)<|oc (ok_ldW (f:=fTR (2) ((at3 (tts TS) p.1))) 18 (by kernel_rfl) (hz:=tr_len _ _))<|oc (ok_call1 wide_wide en_18 (fun u0 W hb (h0:(fTR (2) ((at3 (tts TS) p.1))).p u0 W)=>corners_v h0))<|oc (ok_call2 wide_wide en_16 (fun u0 u1 W hb (h0:(SF.row 6 (pns (shiftV (pps A) y.p))).p u0 W) (h1:(SF.row 6 (pvs (2) (tl (at3 (tts TS) p.1)))).p u1 W)=>apolys_p (m:=5) (ps:=shiftV (pps A) y.p) (qs:=tl (at3 (tts TS) p.1)) (pns_pvs hsA _ _ h0) (pvs_mono (by decide) _ _ h1) (by decide) (by decide) (by rw [shift_len];exact hnA) (by simp) (hT.below (s.up hb))))<|oc (ok_cmpB (!(polysB (shiftV (pps A) y.p) (tl (at3 (tts TS) p.1)))) (polysB (shiftV (pps A) y.p) (tl (at3 (tts TS) p.1))) false (by kernel_rfl) (fun q W h=>by rw [show q=_ from h,hg]) iiz (by cases polysB (shiftV (pps A) y.p) (tl (at3 (tts TS) p.1))<;>rfl) rfl)<|obs_nil) fun a w20 s=> ?_
     refine tail_end rfl ?_
     refine StS.cond s false iiz (fun e=>by cases e) (fun e=> ?_)
     refine wpIn_skip ?_
     refine wpIn_seq ?_
     have sb:=s;have so:=s.old;have sg:=s.gr.size
     refine rest_in (GW w20) hmix s fun w21 hwb s=> ?_
     have hz:=hwb.size
     refine rest_go [] [0,1,2,3,4,5,6] ((82, .s ((UF.eq l).toSF))::(83, .s ((UF.eq (.int .i64 (((p.1:Nat):Int)))).toSF))::(84, .s (SF.ptr (CU.agg (fTR (2) ((at3 (tts TS) p.1)))).cf))::(85, .s ((fTR (2) ((at3 (tts TS) p.1))).toSF))::(86, .s (SF.row 6 (pvs (2) (tl (at3 (tts TS) p.1)))))::(87, .s ((fPV (2) (z.p)).toSF))::(88, .s (SF.row 6 (pns (shiftV (tl (at3 (tts TS) p.1)) z.p)))):: []) (gw_gr hwb) s (by kernel_rfl)
      (oc ok_move<|oc ok_move<|oc (ok_indexB (z:=18) (Cs:=trs 2 (tts TS)) (i:=p.1) (C:=CU.agg (fTR (2) ((at3 (tts TS) p.1)))) (by kernel_rfl) (trs_get hk) (fun v W hb h=>(by rw [show _=l from h];exact (SF.row 18 (trs 2 (tts TS))).st _ _ _ hTw (s.up hb))) iiz)<|oc (ok_ldW (f:=fTR (2) ((at3 (tts TS) p.1))) 18 (by kernel_rfl) (hz:=tr_len _ _))<|oc (ok_call1 wide_wide en_18 (fun u0 W hb (h0:(fTR (2) ((at3 (tts TS) p.1))).p u0 W)=>corners_v h0))<|oc (ok_loadA (C:=(PX.cu z).cf) 6 (by kernel_rfl) (fun _ _ h=>h.2) (px_whole hz9))<|oc (ok_call2 wide_wide en_19 (fun u0 u1 W hb (h0:(SF.row 6 (pvs (2) (tl (at3 (tts TS) p.1)))).p u0 W) (h1:(fPV (2) (z.p)).p u1 W)=>(r18shift_p (m:=2) (t:=z.p) (ps:=tl (at3 (tts TS) p.1)) h0 h1 (by decide) (by decide) (by simp)).mono (Ret.to newRow_row)))<|obs_nil)
      (fdl_nil) fun a w22 hbw s hr=> ?_
     replace hwb:=hwb.trans (hbw.mono hwb.size)
     obtain ⟨v88,e88⟩: ∃v,a.tmps.getD 88 undef=v:=⟨_,rfl⟩
     have hv88:(SF.row 6 (pns (shiftV (tl (at3 (tts TS) p.1)) z.p))).p v88 w22:=e88▸(hr (_,_) mz6)
     replace s:=s.learn 88 v88 e88
     have hz:=hwb.size
     refine rest_go [] [7] ((17, .u (UF.eq (v88))):: []) (gw_gr hwb) s (by kernel_rfl)
      (oc (ok_assign)<|obs_nil)
      (fdl_nil) fun a w23 hbw s hr=> ?_
     replace hwb:=hwb.trans (hbw.mono hwb.size)
     replace hv88:=(SF.row 6 _).st _ _ _ hv88 hbw
     refine rest_end (by kernel_rfl) ?_
     have hq6:=trs_qb (m:=2) (by decide) hTw hk
     have hmq:=shift_qb hq6 hzq
     have hm0:=hmq _ (List.mem_cons_self ..)
     have hm1:=hmq _ (List.mem_cons_of_mem _ (List.mem_cons_self ..))
     have hm2:=hmq _ (List.mem_cons_of_mem _ (List.mem_cons_of_mem _ (List.mem_cons_self ..)))
     refine region_goPSN (K:= [(17, .u (UF.eq v88)),(88, .u (UF.eq (v88))),(81, .u (UF.eq (.bool false))),(14, .u (UF.eq (.int .i64 ((((whichK (shiftV (pps A) y.p) (tts TS) (p.1+1)).length:Nat):Int))))),(68, .u (UF.eq (.bool (g (at3 (tts TS) p.1))))),(16, .u (UF.eq (.bool (g (at3 (tts TS) p.1))))),(53, .u (UF.eq (.bool (decide (((p.1:Nat):Int)<(((trs 2 (tts TS)).length:Nat):Int)))))),(0, .u (UF.eq r)),(1, .u (UF.eq l)),(11, .u (UF.eq (.bool (!((tts TS).any g))))),(12, .u (UF.eq v44)),(15, .u (UF.eq (.int .i64 (((p.1:Nat):Int)))))]) [(13, .u (UF.eq (p.2)))] [0,1,4,7] 12 ((89, .u (UF.eq (p.2)))::(90, .s ((UF.eq v88).toSF))::(91, .s (SF.ptr (CU.agg (fPN ((at_ (shiftV (tl (at3 (tts TS) p.1)) z.p) 0)))).cf))::(92, .s ((fPN ((at_ (shiftV (tl (at3 (tts TS) p.1)) z.p) 0))).toSF))::(93, .s ((UF.eq v88).toSF))::(94, .s (SF.ptr (CU.agg (fPN ((at_ (shiftV (tl (at3 (tts TS) p.1)) z.p) 1)))).cf))::(95, .s ((fPN ((at_ (shiftV (tl (at3 (tts TS) p.1)) z.p) 1))).toSF))::(96, .s ((UF.eq v88).toSF))::(97, .s (SF.ptr (CU.agg (fPN ((at_ (shiftV (tl (at3 (tts TS) p.1)) z.p) 2)))).cf))::(98, .s ((fPN ((at_ (shiftV (tl (at3 (tts TS) p.1)) z.p) 2))).toSF))::(99, .s ((fTR (5) (movT z.p (at3 (tts TS) p.1))).toSF))::(100, .s (SF.row 18 (trs (5) [movT z.p (at3 (tts TS) p.1)]))):: []) hmix (s.keepK _ (fmz ⟨mz11,fmz ⟨.head _,fmz ⟨mz1,fmz ⟨mz2,fmz ⟨mz3,fmz ⟨mz4,fmz ⟨mz5,fmz ⟨mz6,fmz ⟨mz7,fmz ⟨mz8,fmz ⟨mz9,fmz ⟨mz10,fmz ⟨mz12,fnz⟩⟩⟩⟩⟩⟩⟩⟩⟩⟩⟩⟩⟩)) (by kernel_rfl)
      (oc ok_move<|oc ok_move<|oc (ok_indexB (z:=6) (Cs:=pns (shiftV (tl (at3 (tts TS) p.1)) z.p)) (i:=0) (C:=CU.agg (fPN ((at_ (shiftV (tl (at3 (tts TS) p.1)) z.p) 0)))) (by kernel_rfl) (pns_get (by rw [shift_len];exact (by decide:0<3))) (fun v W hb h=>(by rw [show _=v88 from h];exact (SF.row 6 (pns (shiftV (tl (at3 (tts TS) p.1)) z.p))).st _ _ _ hv88 hb)) iiz)<|oc (ok_ldW (f:=fPN ((at_ (shiftV (tl (at3 (tts TS) p.1)) z.p) 0))) 6 (by kernel_rfl) (hz:=pt_len _ _))<|oc ok_move<|oc (ok_indexB (z:=6) (Cs:=pns (shiftV (tl (at3 (tts TS) p.1)) z.p)) (i:=1) (C:=CU.agg (fPN ((at_ (shiftV (tl (at3 (tts TS) p.1)) z.p) 1)))) (by kernel_rfl) (pns_get (by rw [shift_len];exact (by decide:1<3))) (fun v W hb h=>(by rw [show _=v88 from h];exact (SF.row 6 (pns (shiftV (tl (at3 (tts TS) p.1)) z.p))).st _ _ _ hv88 hb)) iiz)<|oc (ok_ldW (f:=fPN ((at_ (shiftV (tl (at3 (tts TS) p.1)) z.p) 1))) 6 (by kernel_rfl) (hz:=pt_len _ _))<|oc ok_move<|oc (ok_indexB (z:=6) (Cs:=pns (shiftV (tl (at3 (tts TS) p.1)) z.p)) (i:=2) (C:=CU.agg (fPN ((at_ (shiftV (tl (at3 (tts TS) p.1)) z.p) 2)))) (by kernel_rfl) (pns_get (by rw [shift_len];exact (by decide:2<3))) (fun v W hb h=>(by rw [show _=v88 from h];exact (SF.row 6 (pns (shiftV (tl (at3 (tts TS) p.1)) z.p))).st _ _ _ hv88 hb)) iiz)<|oc (ok_ldW (f:=fPN ((at_ (shiftV (tl (at3 (tts TS) p.1)) z.p) 2))) 6 (by kernel_rfl) (hz:=pt_len _ _))<|oc (ok_build3 (fun u v q W (hu:(fPN ((at_ (shiftV (tl (at3 (tts TS) p.1)) z.p) 0))).p u W) (hv:(fPN ((at_ (shiftV (tl (at3 (tts TS) p.1)) z.p) 1))).p v W) (hq:(fPN ((at_ (shiftV (tl (at3 (tts TS) p.1)) z.p) 2))).p q W)=>b_tr (m:=5) (t:=movT z.p (at3 (tts TS) p.1)) (pn_pv (m:=5) hm0.1 hm0.2 hu) (pn_pv (m:=5) hm1.1 hm1.2 hv) (pn_pv (m:=5) hm2.1 hm2.2 hq)))<|oc (ok_slice1 (fun u W (hu:(fTR (5) (movT z.p (at3 (tts TS) p.1))).p u W)=>sl_tr1 hu))<|obs_nil) fun Q' hQ a w24 s hr=> ?_
     refine t_app ([CU.agg (fTR (5) (movT z.p (at3 (tts TS) p.1)))]) s0 (s.keepK [(89, .u (UF.eq (p.2))),(17, .u (UF.eq v88)),(88, .u (UF.eq (v88))),(81, .u (UF.eq (.bool false))),(14, .u (UF.eq (.int .i64 ((((whichK (shiftV (pps A) y.p) (tts TS) (p.1+1)).length:Nat):Int))))),(68, .u (UF.eq (.bool (g (at3 (tts TS) p.1))))),(16, .u (UF.eq (.bool (g (at3 (tts TS) p.1))))),(53, .u (UF.eq (.bool (decide (((p.1:Nat):Int)<(((trs 2 (tts TS)).length:Nat):Int)))))),(0, .u (UF.eq r)),(1, .u (UF.eq l)),(11, .u (UF.eq (.bool (!((tts TS).any g))))),(12, .u (UF.eq v44)),(15, .u (UF.eq (.int .i64 (((p.1:Nat):Int)))))] (fmz ⟨.head _,fmz ⟨mz1,fmz ⟨mz2,fmz ⟨mz3,fmz ⟨mz4,fmz ⟨mz5,fmz ⟨mz6,fmz ⟨mz7,fmz ⟨mz8,fmz ⟨mz9,fmz ⟨mz10,fmz ⟨mz11,fmz ⟨mz12,fnz⟩⟩⟩⟩⟩⟩⟩⟩⟩⟩⟩⟩⟩)) hb0' hI.2 rfl (by kernel_rfl) (by kernel_rfl) (by kernel_rfl) (s.fct (.tmp 89)) (hr (_,_) mz11) (one_tr _ _) (by simp;omega) (hbb) fun v' a w hI' s=> ?_
     have s1:=s
     replace s:StS _ _ _ [⟨9,31,PX.cu z,b9,true⟩,⟨8,31,PX.cu y,b8,true⟩,⟨7,33,TX.cu x,b7,true⟩] _ _ _ _:=s.freeze
     replace s:=s.reb rfl [(101, .u (UF.eq (v'))),(89, .u (UF.eq (p.2))),(17, .u (UF.eq v88)),(88, .u (UF.eq (v88))),(81, .u (UF.eq (.bool false))),(14, .u (UF.eq (.int .i64 ((((whichK (shiftV (pps A) y.p) (tts TS) (p.1+1)).length:Nat):Int))))),(68, .u (UF.eq (.bool (g (at3 (tts TS) p.1))))),(16, .u (UF.eq (.bool (g (at3 (tts TS) p.1))))),(53, .u (UF.eq (.bool (decide (((p.1:Nat):Int)<(((trs 2 (tts TS)).length:Nat):Int)))))),(0, .u (UF.eq r)),(1, .u (UF.eq l)),(11, .u (UF.eq (.bool (!((tts TS).any g))))),(12, .u (UF.eq v44)),(15, .u (UF.eq (.int .i64 (((p.1:Nat):Int)))))] (fmz ⟨.inl (.head _),fmz ⟨.inl mz1,fmz ⟨.inl mz2,fmz ⟨.inl mz3,fmz ⟨.inl mz4,fmz ⟨.inl mz5,fmz ⟨.inl mz6,fmz ⟨.inl mz7,fmz ⟨.inl mz8,fmz ⟨.inl mz9,fmz ⟨.inl mz10,fmz ⟨.inl mz11,fmz ⟨.inl mz12,fmz ⟨.inl mz13,fnz⟩⟩⟩⟩⟩⟩⟩⟩⟩⟩⟩⟩⟩⟩)
     refine t_set (UF.eq (v')) rfl s (by kernel_rfl) iiz fun a w s=> ?_
     refine tail_end rfl (hQ _ _ ?_)
     refine region_goS 2 ((54, .s ((UF.eq (.int .i64 (((p.1:Nat):Int)))).toSF))::(55, .u (UF.eq (.int .i64 (((p.1+1:Nat):Int))))):: []) s (by kernel_rfl)
      (oc ok_move<|oc (ok_addI .i64 (((p.1:Nat):Int)) (1) (((p.1+1:Nat):Int)) iiz iiz (wrap64 _ _ (by omega) (by omega)))<|obs_nil) fun a w25 s=> ?_
     replace s:=s.drop [15]
     refine t_set (UF.eq (.int .i64 (((p.1+1:Nat):Int)))) rfl s (by kernel_rfl) iiz fun a w s=> ?_
     refine tail_end rfl ?_
     have hbw:=s.below
     replace s:=s1.back (s.keepK [(15, .u (UF.eq (.int .i64 (((p.1+1:Nat):Int))))),(55, .u (UF.eq (.int .i64 (((p.1+1:Nat):Int))))),(13, .u (UF.eq (v'))),(101, .u (UF.eq (v'))),(89, .u (UF.eq (p.2))),(17, .u (UF.eq v88)),(88, .u (UF.eq (v88))),(81, .u (UF.eq (.bool false))),(14, .u (UF.eq (.int .i64 ((((whichK (shiftV (pps A) y.p) (tts TS) (p.1+1)).length:Nat):Int))))),(68, .u (UF.eq (.bool (g (at3 (tts TS) p.1))))),(16, .u (UF.eq (.bool (g (at3 (tts TS) p.1))))),(53, .u (UF.eq (.bool (decide (((p.1:Nat):Int)<(((trs 2 (tts TS)).length:Nat):Int)))))),(0, .u (UF.eq r)),(1, .u (UF.eq l)),(11, .u (UF.eq (.bool (!((tts TS).any g))))),(12, .u (UF.eq v44))] (fmz ⟨.head _,fmz ⟨mz1,fmz ⟨mz2,fmz ⟨mz3,fmz ⟨mz4,fmz ⟨mz5,fmz ⟨mz6,fmz ⟨mz7,fmz ⟨mz8,fmz ⟨mz9,fmz ⟨mz10,fmz ⟨mz11,fmz ⟨mz12,fmz ⟨mz13,fmz ⟨mz14,fmz ⟨mz15,fnz⟩⟩⟩⟩⟩⟩⟩⟩⟩⟩⟩⟩⟩⟩⟩⟩)) rfl
     exact ⟨(p.1+1,v'),(by show (tts TS).length - (p.1+1)<(tts TS).length - p.1;omega),⟨hk,Nat.le_trans hI'.1 hbw.size,by rw [mov_take hk];exact hI'.2.below hbw⟩,s.keepK _ (fmz ⟨mz12,fmz ⟨mz13,fmz ⟨mz14,fmz ⟨mz15,fmz ⟨mz2,fmz ⟨mz8,fmz ⟨.head _,fnz⟩⟩⟩⟩⟩⟩⟩)⟩
   ·have hk:p.1=(tts TS).length:=by have h7:=of_decide_eq_false e;have h8:=hI.1;simp at h7;omega
    have hkn:(((whichK (shiftV (pps A) y.p) (tts TS) (p.1)).length:Nat):Int)=(((nums wl).length:Nat):Int):=by rw [hwl,hk];simp
    refine wpIn_exit ?_
    refine wpIn_seq ?_
    have hmv:(SF.row 18 (trs 5 ((tts TS).map (movT z.p)))).p p.2 w:=by have h9:=hI.2.2.row;rwa [hk,List.take_of_length_le (Nat.le_refl _)] at h9
    have sb:=s;have so:=s.old;have sg:=s.gr.size
    refine rest_in (GW w16) hmix s fun w26 hwb s=> ?_
    have hz:=hwb.size
    refine rest_go [0,7] [0,1,2,3,4,5,7] ((102, .u (UF.eq r))::(103, .s (SF.emp w26 33))::(104, .s ((UF.eq l).toSF))::(105, .s (SF.newRow w26 33 18 (trs 2 (tts TS))))::(106, .s ((fTR (2) (x.t)).toSF))::(107, .s (SF.row 18 (trs (2) [x.t])))::(109, .u (fPV (2) (y.p))):: []) (gw_gr hwb) s (by kernel_rfl)
     (oc ok_move<|oc (ok_slice0 (z:=18) (by kernel_rfl))<|oc ok_move<|oc (ok_appE (trs 2 (tts TS)) (by kernel_rfl) iiz (fun v W hb h=>(by rw [show _=l from h];exact (SF.row 18 (trs 2 (tts TS))).st _ _ _ hTw (s.up hb))) (trs_ok _ _) (by simp;omega))<|oc (ok_loadA (C:=(TX.cu x).cf) 18 (by kernel_rfl) (fun _ _ h=>h.2) (tx_whole hx9))<|oc (ok_slice1 (fun u W (hu:(fTR (2) (x.t)).p u W)=>sl_tr1 hu))<|oc (ok_loadA (C:=(PX.cu y).cf) 6 (by kernel_rfl) (fun _ _ h=>h.2) (px_whole hy9))<|obs_nil)
     (fdl_cons rfl (FdOK.c (fd_move) hwb) (fdl_cons rfl (FdOK.c (fd_ldB (c:=8) sb rfl (by kernel_rfl) (pt_len _ _) (fun _ _ h=>h.1)) hwb) (fdl_nil))) fun a w27 hbw s hr=> ?_
    replace hwb:=hwb.trans (hbw.mono hwb.size)
    refine rest_app (i:=6) (x:= .tmp 105) (y:= .tmp 107) ([CU.agg (fTR 2 x.t)]) hwb s sg (RowN.mono (hr (_,_) mz3) hz) rfl (wanted_none rfl) (by kernel_rfl) (by kernel_rfl) (by kernel_rfl) rfl (hr (_,_) mz5) (one_tr _ _) (by simp;omega) so fun v108 a w28 hwb hN108 s=> ?_
    have hR108:=hN108.row
    rw [trs_snoc] at hR108
    have hz:=hwb.size
    refine rest_go [] [8,9] ((110, .s ((UF.eq (.bool ((!((tts TS).any g))&&(!([x.t].any g))))).toSF))::(18, .u (UF.eq (.bool ((!((tts TS).any g))&&(!([x.t].any g)))))):: []) (gw_gr hwb) s (by kernel_rfl)
     (oc (ok_call3 wide_wide en_14 (fun u0 u1 u2 W hb (h0:u0=r) (h1:u1=v108) (h2:(fPV (2) (y.p)).p u2 W)=>(afree_p (m:=2) (rs:=pps A) (ts:=tts TS++ [x.t]) (p:=y.p) (by rw [show _=r from h0];exact (SF.row 6 (pvs (2) (pps A))).st _ _ _ hAw (s.up hb)) (by rw [show _=v108 from h1];exact (SF.row 18 (trs 2 (tts TS++ [x.t]))).st _ _ _ hR108 hb) h2 (by decide) (by decide) hnA (by simp;omega) (hT.below (s.up hb))).mono (Ret.to (fun v W h=>by rw [←hg,any_two] at h;exact h))))<|oc (ok_assign)<|obs_nil)
     (fdl_nil) fun a w29 hbw s hr=> ?_
    replace hwb:=hwb.trans (hbw.mono hwb.size)
    refine rest_end (by kernel_rfl) ?_
    refine wpIn_seq ?_
    refine region_go 30 ((111, .s ((UF.eq (.int .i64 ((((whichK (shiftV (pps A) y.p) (tts TS) (p.1)).length:Nat):Int)))).toSF))::(112, .s ((UF.eq v44).toSF))::(113, .s ((UF.eq (.int .i64 ((((nums wl).length:Nat):Int)))).toSF))::(114, .s ((UF.eq (.bool true)).toSF))::(115, .s ((UF.eq (.bool true)).toSF))::(116, .s ((UF.eq (.bool ((!((tts TS).any g))&&(!([x.t].any g))))).toSF))::(117, .s ((UF.eq (.bool (!((tts TS).any g)))).toSF))::(118, .s ((UF.eq (.bool (!((tts TS).any g)))).toSF))::(119, .s (SF.imp ((!((tts TS).any g))=true) ((UF.eq r).toSF)))::(120, .s (SF.imp ((!((tts TS).any g))=true) ((fTR (2) (x.t)).toSF)))::(121, .s (SF.imp ((!((tts TS).any g))=true) (SF.row 18 (trs (2) [x.t]))))::(122, .s (SF.imp ((!((tts TS).any g))=true) ((fPV (2) (y.p)).toSF)))::(123, .s (SF.imp ((!((tts TS).any g))=true) ((UF.eq (.bool (!([x.t].any g)))).toSF)))::(124, .s ((UF.eq (.bool ((!((tts TS).any g))&&(!([x.t].any g))))).toSF))::(125, .s ((UF.eq (.bool true)).toSF))::(126, .s ((UF.eq (.bool true)).toSF))::(127, .s ((UF.eq (.bool true)).toSF))::(128, .s ((UF.eq r).toSF))::(129, .s ((UF.eq p.2).toSF))::(130, .s ((fPV (2) (y.p)).toSF))::(131, .s ((fPV (2) (z.p)).toSF))::(132, .s ((fPN (addV y.p z.p)).toSF))::(133, .s ((UF.eq (.bool (!((tts TS).any g)))).toSF))::(134, .s ((UF.eq (.bool (!((tts TS).any g)))).toSF))::(135, .s ((UF.eq (.bool true)).toSF))::(136, .s ((UF.eq (.bool true)).toSF))::(137, .s ((UF.eq (.bool true)).toSF))::(138, .s ((UF.eq (.bool true)).toSF))::(139, .s ((UF.eq (.bool true)).toSF))::(10, .u (UF.eq (.bool true))):: []) hmix s (by kernel_rfl)
     (oc ok_move<|oc ok_move<|oc (ok_lenB (z:=1) (Cs:=nums wl) (by kernel_rfl) (fun v W hb h=>(by rw [show _=v44 from h];exact (SF.row 1 (nums wl)).st _ _ _ hWw (s.up hb))) (fun _=>rfl))<|oc (ok_cmpI .i64 ((((whichK (shiftV (pps A) y.p) (tts TS) (p.1)).length:Nat):Int)) ((((nums wl).length:Nat):Int)) true iiz iiz (by rw [hkn];exact beq_self_eq_true _) rfl)<|oc ok_move<|oc (ok_guard 115 true (by kernel_rfl) iiz (fun _=>ok_move) (fun e=>absurd rfl e))<|oc (ok_guard 115 true (by kernel_rfl) iiz (fun _=>ok_move) (fun e=>absurd rfl e))<|oc (ok_guard 115 true (by kernel_rfl) iiz (fun _=>ok_move) (fun e=>absurd rfl e))<|oc (ok_guard 118 (!((tts TS).any g)) (by kernel_rfl) iiz (fun e=>gd_imp [] ((UF.eq r).toSF) (fnz) (fun _ _ h _=>h) (by kernel_rfl) (ok_move)) (fun e W h=>absurd h e))<|oc (ok_guard 118 (!((tts TS).any g)) (by kernel_rfl) iiz (fun e=>gd_imp [] ((fTR (2) (x.t)).toSF) (fnz) (fun _ _ h _=>h) (by kernel_rfl) (ok_loadA (C:=(TX.cu x).cf) 18 (by kernel_rfl) (fun _ _ h=>h.2) (tx_whole hx9))) (fun e W h=>absurd h e))<|oc (ok_guard 118 (!((tts TS).any g)) (by kernel_rfl) iiz (fun e=>gd_imp [(120,(fTR (2) (x.t)).toSF)] (SF.row 18 (trs (2) [x.t])) (fmz ⟨fun v W h=>imp_app (c:=(!((tts TS).any g))=true) (f:=(fTR (2) (x.t)).toSF) e h,fnz⟩) (fun _ _ h _=>h) (by kernel_rfl) (ok_slice1 (fun u W (hu:(fTR (2) (x.t)).p u W)=>sl_tr1 hu))) (fun e W h=>absurd h e))<|oc (ok_guard 118 (!((tts TS).any g)) (by kernel_rfl) iiz (fun e=>gd_imp [] ((fPV (2) (y.p)).toSF) (fnz) (fun _ _ h _=>h) (by kernel_rfl) (ok_loadA (C:=(PX.cu y).cf) 6 (by kernel_rfl) (fun _ _ h=>h.2) (px_whole hy9))) (fun e W h=>absurd h e))<|oc (ok_guard 118 (!((tts TS).any g)) (by kernel_rfl) iiz (fun e=>gd_imp [(119,(UF.eq r).toSF),(121,SF.row 18 (trs (2) [x.t])),(122,(fPV (2) (y.p)).toSF)] ((UF.eq (.bool (!([x.t].any g)))).toSF) (fmz ⟨fun v W h=>imp_app (c:=(!((tts TS).any g))=true) (f:=(UF.eq r).toSF) e h,fmz ⟨fun v W h=>imp_app (c:=(!((tts TS).any g))=true) (f:=SF.row 18 (trs (2) [x.t])) e h,fmz ⟨fun v W h=>imp_app (c:=(!((tts TS).any g))=true) (f:=(fPV (2) (y.p)).toSF) e h,fnz⟩⟩⟩) (fun _ _ h _=>h) (by kernel_rfl) (ok_call3 wide_wide en_14 (fun u0 u1 u2 W hb (h0:u0=r) (h1:(SF.row 18 (trs (2) [x.t])).p u1 W) (h2:(fPV (2) (y.p)).p u2 W)=>(afree_p (m:=2) (rs:=pps A) (ts:= [x.t]) (p:=y.p) (by rw [show _=r from h0];exact (SF.row 6 (pvs (2) (pps A))).st _ _ _ hAw (s.up hb)) h1 h2 (by decide) (by decide) hnA (by simp) (hT.below (s.up hb))).mono (Ret.to (fun v W h=>by rw [←hg] at h;exact h))))) (fun e W h=>absurd h e))<|oc (ok_guard 115 true (by kernel_rfl) iiz (fun _=>ok_pick (!((tts TS).any g)) iiz (fun e v W h=>pick_and (imp_app e h) e) (fun e v W h=>pick_and' h e)) (fun e=>absurd rfl e))<|oc (ok_guard 115 true (by kernel_rfl) iiz (fun _=>ok_cmpB ((!((tts TS).any g))&&(!([x.t].any g))) ((!((tts TS).any g))&&(!([x.t].any g))) true (by kernel_rfl) iiz iiz (beq_self_eq_true _) rfl) (fun e=>absurd rfl e))<|oc (ok_pick true iiz (fun _ _ _ h=>h) (fun e=>by cases e))<|oc ok_move<|oc (ok_guard 127 true (by kernel_rfl) iiz (fun _=>ok_move) (fun e=>absurd rfl e))<|oc (ok_guard 127 true (by kernel_rfl) iiz (fun _=>ok_move) (fun e=>absurd rfl e))<|oc (ok_guard 127 true (by kernel_rfl) iiz (fun _=>ok_loadA (C:=(PX.cu y).cf) 6 (by kernel_rfl) (fun _ _ h=>h.2) (px_whole hy9)) (fun e=>absurd rfl e))<|oc (ok_guard 127 true (by kernel_rfl) iiz (fun _=>ok_loadA (C:=(PX.cu z).cf) 6 (by kernel_rfl) (fun _ _ h=>h.2) (px_whole hz9)) (fun e=>absurd rfl e))<|oc (ok_guard 127 true (by kernel_rfl) iiz (fun _=>ok_call2 wide_wide en_20 (fun u0 u1 W hb (h0:(fPV (2) (y.p)).p u0 W) (h1:(fPV (2) (z.p)).p u1 W)=>r8add_p (m:=2) (p:=y.p) (q:=z.p) h0 h1 hyq hzq (by decide))) (fun e=>absurd rfl e))<|oc (ok_guard 127 true (by kernel_rfl) iiz (fun _=>ok_call3 wide_wide en_14 (fun u0 u1 u2 W hb (h0:u0=r) (h1:u1=p.2) (h2:(fPN (addV y.p z.p)).p u2 W)=>(afree_p (m:=5) (rs:=pps A) (ts:=(tts TS).map (movT z.p)) (p:=addV y.p z.p) (pvs_mono (m:=2) (by decide) _ _ (by rw [show _=r from h0];exact (SF.row 6 (pvs (2) (pps A))).st _ _ _ hAw (s.up hb))) (by rw [show _=p.2 from h1];exact (SF.row 18 (trs 5 ((tts TS).map (movT z.p)))).st _ _ _ hmv (s.up hb)) (pn_pv (p:=addV y.p z.p) (m:=5) hyz.1 hyz.2 h2) (by decide) (by decide) hnA (by rw [List.length_map];exact hnT) (hT.below (s.up hb))).mono (Ret.to (fun v W h=>by rw [any_mov, ←hg] at h;exact h)))) (fun e=>absurd rfl e))<|oc (ok_guard 127 true (by kernel_rfl) iiz (fun _=>ok_move) (fun e=>absurd rfl e))<|oc (ok_guard 127 true (by kernel_rfl) iiz (fun _=>ok_cmpB (!((tts TS).any g)) (!((tts TS).any g)) true (by kernel_rfl) iiz iiz (beq_self_eq_true _) rfl) (fun e=>absurd rfl e))<|oc (ok_pick true iiz (fun _ _ _ h=>h) (fun e=>by cases e))<|oc ok_move<|oc (ok_guard 137 true (by kernel_rfl) iiz (fun _=>ok_call0 wide_wide en_13 (fun W hb=>wakes18 (hT.below (s.up hb)))) (fun e=>absurd rfl e))<|oc (ok_pick true iiz (fun _ _ _ h=>h) (fun e=>by cases e))<|oc (ok_assign)<|obs_nil) fun a w30 s=> ?_
    refine tail_end rfl ?_
    refine wpIn_ret ?_
    exact StS.resB s (hb0.trans (s0.below.mono hb0.size)) (t:=10) rfl iiz
end Go.Proofs.Wd
