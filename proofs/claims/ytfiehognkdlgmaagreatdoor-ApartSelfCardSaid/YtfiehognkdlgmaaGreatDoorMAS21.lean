/- Walks of package apart: Free, Which; Walks of package apart: Which; Wa and what it needs. -/
import Derived.Test.YtfiehognkdlgmaaGreatDoorMAS20
import Derived.Test.YtfiehognkdlgmaaGreatDoorMAS19
namespace Go.Proofs.Wd
set_option maxRecDepth 100000
set_option maxHeartbeats 1000000
open Go.RowKit Lb
abbrev V6 := V2 × V2 × V2
abbrev tl (t : V6) : List V2 := [t.1, t.2.1, t.2.2]
def at3 (l : List V6) (i : Nat) : V6 := l.getD i ((0, 0), (0, 0), (0, 0))
def TRp (m : Nat) (t : V6) (v : Value) (w : World) : Prop := ∃ a b c : List Value, v = .agg (a ++ b ++ c).toArray ∧ (CU.agg (fPV m t.1)).p a w ∧ (CU.agg (fPV m t.2.1)).p b w ∧ (CU.agg (fPV m t.2.2)).p c w
def fTR (m : Nat) (t : V6) : UF := .mk' (TRp m t) fun _ _ _ ⟨a, b, c, e, h1, h2, h3⟩ k => ⟨a, b, c, e, (CU.agg _).us _ _ _ h1 k, (CU.agg _).us _ _ _ h2 k, (CU.agg _).us _ _ _ h3 k⟩
theorem tr_parts {m : Nat} {t : V6} {cs : List Value} {W : World} (h : TRp m t (.agg cs.toArray) W) : ∃ a b c : List Value, cs = a ++ b ++ c ∧ a.length = 6 ∧ b.length = 6 ∧ c.length = 6 ∧ (CU.agg (fPV m t.1)).p a W ∧ (CU.agg (fPV m t.2.1)).p b W ∧ (CU.agg (fPV m t.2.2)).p c W := by
 obtain ⟨a, b, c, e, h1, h2, h3⟩ := h
 have := congrArg Array.toList (agg_inj e)
 simp only [List.toList_toArray] at this
 exact ⟨a, b, c, this, (pt_ok _ _ a W h1).1, (pt_ok _ _ b W h2).1, (pt_ok _ _ c W h3).1, h1, h2, h3⟩
theorem tr_ok (m : Nat) (t : V6) : CU.ok 18 (CU.agg (fTR m t)) := fun cs W h => by
 obtain ⟨a, b, c, rfl, l1, l2, l3, h1, h2, h3⟩ := tr_parts h
 have o1 := pt_ok _ _ a W h1; have o2 := pt_ok _ _ b W h2; have o3 := pt_ok _ _ c W h3
 refine ⟨by simp [l1, l2, l3], all_app o1.2.1 o2.2.1 o3.2.1, fun u hu => ?_⟩
 rcases List.mem_append.1 hu with hu | hu
 ·rcases List.mem_append.1 hu with hu | hu
  ·exact o1.2.2 u hu
  ·exact o2.2.2 u hu
 ·exact o3.2.2 u hu
theorem tr_len (m : Nat) (t : V6) : ∀ cs : List Value, ∀ W, (fTR m t).p (.agg cs.toArray) W → cs.length = 18 := fun cs W h => (tr_ok m t cs W h).1
theorem tr_box {m : Nat} {t : V6} {v : Value} {W : World} (h : (fTR m t).p v W) : (CU.agg (fTR m t)).p v.cells.toList W ∧ v.cells.toList.all noLimb = true := by
 obtain ⟨a, b, c, rfl, h1⟩ := id h
 exact ⟨h, (tr_ok m t _ W h).2.1⟩
theorem tr_store {m : Nat} {t : V6} (v : Value) (W : World) (h : (fTR m t).p v W) : ∃ vs : List Value, v = .agg vs.toArray ∧ vs.length = 18 ∧ (∀ u, u ∈ vs → u.oneCell' = true) ∧ vs.all noLimb = true ∧ (CU.agg (fTR m t)).p vs W := by
 obtain ⟨a, b, c, rfl, h1⟩ := id h
 have := tr_ok m t _ W h
 exact ⟨_, rfl, this.1, this.2.2, this.2.1, h⟩
theorem tr_mono {m m' : Nat} {t : V6} (hm : m ≤ m') {v : Value} {W : World} (h : (fTR m t).p v W) : (fTR m' t).p v W := by
 obtain ⟨a, b, c, e, h1, h2, h3⟩ := h
 exact ⟨a, b, c, e, pv_mono hm h1, pv_mono hm h2, pv_mono hm h3⟩
abbrev trs (m : Nat) (ts : List V6) : List CU := ts.map fun t => CU.agg (fTR m t)
theorem trs_get {m : Nat} {ts : List V6} {i : Nat} (h : i < ts.length) : (trs m ts)[i]? = some (CU.agg (fTR m (at3 ts i))) := by
 unfold trs at3; rw [List.getElem?_map, List.getD_eq_getElem?_getD, List.getElem?_eq_getElem h]; rfl
theorem trs_mono {m m' : Nat} (hm : m ≤ m') {ts : List V6} (v : Value) (W : World) (hv : (SF.row 18 (trs m ts)).p v W) : (SF.row 18 (trs m' ts)).p v W :=
 row_imp (by simp) (fun i C D hC hD cs W h => by
  have hi : i < ts.length := by have := (List.getElem?_eq_some_iff.1 hC).1; simpa using this
  rw [trs_get hi] at hC
  rw [trs_get hi] at hD
  cases hC; cases hD
  exact tr_mono hm h) v W hv
theorem pvs_mono {m m' : Nat} (hm : m ≤ m') {ps : List V2} (v : Value) (W : World) (hv : (SF.row 6 (pvs m ps)).p v W) : (SF.row 6 (pvs m' ps)).p v W :=
 row_imp (by simp) (fun i C D hC hD cs W h => by
  have hi : i < ps.length := by have := (List.getElem?_eq_some_iff.1 hC).1; simpa using this
  rw [pvs_get hi] at hC
  rw [pvs_get hi] at hD
  cases hC; cases hD
  exact pv_mono hm h) v W hv
theorem tr_row {m : Nat} {t : V6} {b o : Nat} {cs : List Value} {W : World} (h : (CU.agg (fTR m t)).p cs W) (hm : Mem W b o cs) : (SF.row 6 (pvs m (tl t))).p (.slice (some ⟨b, o, none⟩) 3 3) W := by
 obtain ⟨x, y, z, rfl, l1, l2, l3, h1, h2, h3⟩ := tr_parts h
 refine ⟨_, 3, rfl, Nat.le_refl _, by decide, fun e => (by cases e), fun i C hi => ?_⟩
 have hlt := (List.getElem?_eq_some_iff.1 hi).1
 simp at hlt
 rcases (by omega : i = 0 ∨ i = 1 ∨ i = 2) with rfl | rfl | rfl
 ·obtain rfl : CU.agg (fPV m t.1) = C := by simpa using hi
  exact ⟨b, o, x, rfl, fun j u hj => by rw [Nat.zero_mul]; exact hm j u (by rw [List.append_assoc, List.getElem?_append_left (List.getElem?_eq_some_iff.1 hj).1]; exact hj), h1⟩
 ·obtain rfl : CU.agg (fPV m t.2.1) = C := by simpa using hi
  refine ⟨b, o, y, rfl, fun j u hj => ?_, h2⟩
  have hj' := (List.getElem?_eq_some_iff.1 hj).1
  have := hm (6 + j) u (by rw [List.append_assoc, List.getElem?_append_right (by omega), List.getElem?_append_left (by omega)]; rw [show 6 + j - x.length = j by omega]; exact hj)
  rwa [← Nat.add_assoc] at this
 ·obtain rfl : CU.agg (fPV m t.2.2) = C := by simpa using hi
  refine ⟨b, o, z, rfl, fun j u hj => ?_, h3⟩
  have := hm (12 + j) u (by rw [List.getElem?_append_right (by simp; omega)]; rw [show 12 + j - (x ++ y).length = j by simp; omega]; exact hj)
  rwa [← Nat.add_assoc] at this
section
variable {F : Fence} {m : Nat} {P : Program} {w0 : World} {ops : Array Oper} {G : Nat → SF} {d : Tmp} {ty : TypeId} {pos : String} {aft : Array Edge}
theorem ok_sliceA {x : Operand} {t : TypeId} {C : CF} (n : Nat) (el : TypeId) (ht : P.underlying t = some (.array n el)) (hi : (P.info? el).isSome = true) (hx : ∀ v W, (fct G x).p v W → (SF.ptr C).p v W) (hd : ∀ b o cs W, C.p cs W → Mem W b o cs → (G d).p (.slice (some ⟨b, o, none⟩) n n) W) : GdOK F m P w0 ops G ⟨some d, .slice t x none none none, ty, pos, aft, none⟩ :=
 ok_pure (fun _ e => by cases e) (fun _ e => by cases e) fun b W hb hh => by
  obtain ⟨a, q, cs, e, h2, h3⟩ := hx _ _ (hh x (by simp [Op.operands]))
  obtain ⟨ie, hie⟩ := Option.isSome_iff_exists.1 hi
  refine ⟨.slice (some ⟨a, q, none⟩) n n, ?_, hd a q cs W h2 h3⟩
  simp [execOp, Instr.sliceAt, run_underlying ht, e, Instr.sureAddr, Instr.sliceBounds, sizeOf, typeInfo, hie, Addr.add_lit]
end
def TBt (m : Nat) (g : V6 → Bool) (xs : Array Value) (W : World) (R : SF) : Prop := ∃ u t, xs = #[u] ∧ (fTR m t).p u W ∧ Tab W ∧ R = (fB (g t)).toSF
theorem mem_at3 {l : List V6} {p : V6} (h : p ∈ l) : ∃ i, i < l.length ∧ at3 l i = p := by
 obtain ⟨i, hi, e⟩ := List.getElem_of_mem h
 exact ⟨i, hi, by unfold at3; rw [List.getD_eq_getElem?_getD, List.getElem?_eq_getElem hi]; exact e⟩
theorem at3_mem {l : List V6} {i : Nat} (h : i < l.length) : at3 l i ∈ l := by
 unfold at3; rw [List.getD_eq_getElem?_getD, List.getElem?_eq_getElem h]; exact List.getElem_mem h
theorem idx3_at {g : V6 → Bool} {l : List V6} {k : Nat} (hk : k < l.length) (h0 : ∀ j, j < k → g (at3 l j) = false) (h1 : g (at3 l k) = true) : idxV g l = ((k : Nat) : Int) := by
 have ha : l.any g = true := List.any_eq_true.2 ⟨_, at3_mem hk, h1⟩
 unfold idxV
 rw [if_pos ha]
 congr 1
 refine (List.findIdx_eq hk).2 ⟨by have := h1; unfold at3 at this; rwa [List.getD_eq_getElem?_getD, List.getElem?_eq_getElem hk] at this, fun j hj => ?_⟩
 have := h0 j hj
 unfold at3 at this
 rwa [List.getD_eq_getElem?_getD, List.getElem?_eq_getElem (Nat.lt_trans hj hk)] at this
theorem idx3_none {g : V6 → Bool} {l : List V6} (h0 : ∀ j, j < l.length → g (at3 l j) = false) : idxV g l = -1 := by
 unfold idxV
 rw [if_neg]
 intro ha
 obtain ⟨p, hp, e⟩ := List.any_eq_true.1 ha
 obtain ⟨j, hj, rfl⟩ := mem_at3 hp
 rw [h0 j hj] at e
 cases e
theorem ixt_p {m : Nat} {g : V6 → Bool} {W : World} {l f : Value} {ts : List V6} (hl : (SF.row 18 (trs m ts)).p l W) (hf : (SF.fn Tryz.prog (TBt m g)).p f W) (hn : ts.length ≤ 1000000) (hT : Tab W) : Calls Tryz.prog 98 #[l, f] W (Ret W (fI (idxV g ts)).toSF) := by
 refine run_st [SF.row 18 (trs m ts), SF.fn Tryz.prog (TBt m g)] Tryz.func98 rfl (by kernel_rfl) ⟨hl, hf, trivial⟩ fun a s => ?_
 refine wpIn_seq ?_
 refine region_go 1 ((4, .u (UF.eq (.int .i64 (0)))) :: []) hmix s (by kernel_rfl)
  (oc (ok_assign) <| obs_nil) fun a w1 s => ?_
 refine tail_end rfl ?_
 refine wpIn_seq ?_
 refine wpIn_seq ?_
 refine region_go 3 ((6, .s (SF.row 18 (trs (m) (ts)))) :: (7, .u (UF.eq (.int .i64 ((((trs (m) (ts)).length : Nat) : Int))))) :: (8, .u (UF.eq (.int .i64 (0)))) :: []) hmix s (by kernel_rfl)
  (oc ok_move <| oc (ok_lenR (z := 18) (Cs := trs (m) (ts)) (by kernel_rfl) iiz (fun _ => rfl)) <| oc ok_move <| obs_nil) fun a w2 s => ?_
 refine tail_end rfl ?_
 refine wpIn_block ?_
 refine st_whileK (fun k => k ≤ ts.length ∧ ∀ j, j < k → g (at3 ts j) = false) (fun k => [(0, .o (SF.row 18 (trs (m) (ts)))), (1, .o (SF.fn Tryz.prog (TBt m g))), (7, .u (UF.eq (.int .i64 ((((trs (m) (ts)).length : Nat) : Int))))), (8, .u (UF.eq (.int .i64 (((k : Nat) : Int)))))]) (fun k => ts.length - k) ((0 : Nat)) (⟨Nat.zero_le _, fun j hj => absurd hj (Nat.not_lt_zero _)⟩) (s.keepK _ (fmz ⟨mz3, fmz ⟨mz4, fmz ⟨.head _, fmz ⟨mz1, fnz⟩⟩⟩⟩)) fun k a w hx s => ?_
 refine wpIn_seq ?_
 refine region_go 1 ((9, .u (UF.eq (.bool (decide (((k : Nat) : Int) < (((trs (m) (ts)).length : Nat) : Int)))))) :: []) hmix s (by kernel_rfl)
  (oc (ok_cmpI .i64 (((k : Nat) : Int)) ((((trs (m) (ts)).length : Nat) : Int)) (decide (((k : Nat) : Int) < (((trs (m) (ts)).length : Nat) : Int))) iiz iiz rfl rfl) <| obs_nil) fun a w3 s => ?_
 refine tail_end rfl ?_
 refine wpIn_seq ?_
 refine StS.cond s (decide (((k : Nat) : Int) < (((trs (m) (ts)).length : Nat) : Int))) iiz (fun e => ?_) (fun e => ?_)
 ·have hk : k < ts.length := by have := of_decide_eq_true e; simp at this; omega
  refine wpIn_skip ?_
  refine wpIn_seq ?_
  refine wpIn_block ?_
  refine wpIn_seq ?_
  refine region_go 2 ((10, .s ((UF.eq (.int .i64 (((k : Nat) : Int)))).toSF)) :: (5, .u (UF.eq (.int .i64 (((k : Nat) : Int))))) :: []) hmix s (by kernel_rfl)
   (oc ok_move <| oc (ok_assign) <| obs_nil) fun a w4 s => ?_
  refine tail_end rfl ?_
  refine wpIn_seq ?_
  refine region_go 6 ((11, .s (SF.fn Tryz.prog (TBt m g))) :: (12, .s (SF.row 18 (trs (m) (ts)))) :: (13, .s ((UF.eq (.int .i64 (((k : Nat) : Int)))).toSF)) :: (14, .s (SF.ptr (CU.agg (fTR (m) ((at3 ts k)))).cf)) :: (15, .s ((fTR (m) ((at3 ts k))).toSF)) :: (16, .u (UF.eq (.bool (g (at3 ts k))))) :: []) hmix s (by kernel_rfl)
   (oc ok_move <| oc ok_move <| oc ok_move <| oc (ok_index (z := 18) (Cs := trs (m) (ts)) (i := k) (C := CU.agg (fTR (m) ((at3 ts k)))) (by kernel_rfl) (trs_get hk) iiz iiz) <| oc (ok_ldW (f := fTR (m) ((at3 ts k))) 18 (by kernel_rfl) (hz := tr_len _ _)) <| oc (ok_fn1 (TBt m g) wide_wide iiz (fun u W hb (h : (fTR (m) (at3 ts k)).p u W) => ⟨u, _, rfl, h, (hT.below (s.up hb)), rfl⟩)) <| obs_nil) fun a w5 s => ?_
  refine tail_end rfl ?_
  refine StS.cond s (g (at3 ts k)) iiz (fun e => ?_) (fun e => ?_)
  ·refine wpIn_seq ?_
   refine region_go 2 ((17, .s ((UF.eq (.int .i64 (((k : Nat) : Int)))).toSF)) :: (4, .u (UF.eq (.int .i64 (((k : Nat) : Int))))) :: []) hmix s (by kernel_rfl)
    (oc ok_move <| oc (ok_assign) <| obs_nil) fun a w6 s => ?_
   refine tail_end rfl ?_
   refine wpIn_ret ?_
   exact StS.res1 s (t := 4) rfl (fun v W h => by rw [idx3_at hk hx.2 e]; exact h)
  ·refine wpIn_skip ?_
   refine region_goS 1 ((18, .u (UF.eq (.int .i64 (((k + 1 : Nat) : Int))))) :: []) s (by kernel_rfl)
    (oc (ok_addI .i64 (((k : Nat) : Int)) (1) (((k + 1 : Nat) : Int)) iiz iiz (wrap64 _ _ (by omega) (by omega))) <| obs_nil) fun a w7 s => ?_
   replace s := s.drop [8]
   refine t_gd (UF.eq (.int .i64 (((k + 1 : Nat) : Int)))) rfl s (by kernel_rfl) (ok_move) (by kernel_rfl) fun a w s => ?_
   refine tail_end rfl ?_
   exact ⟨k + 1, ⟨hk, fun j hj => by rcases Nat.lt_or_eq_of_le (Nat.le_of_lt_succ hj) with h | h; exact hx.2 j h; rw [h]; exact e⟩, (by show ts.length - (k + 1) < ts.length - k; omega), s.keepK _ (fmz ⟨mz5, fmz ⟨mz6, fmz ⟨mz7, fmz ⟨.head _, fnz⟩⟩⟩⟩)⟩
 ·have hk : k = ts.length := by have h7 := of_decide_eq_false e; have h8 := hx.1; simp at h7; omega
  refine wpIn_exit ?_
  refine wpIn_seq ?_
  refine region_go 1 ((4, .u (UF.eq (.int .i64 (-1)))) :: []) hmix s (by kernel_rfl)
   (oc (ok_assign) <| obs_nil) fun a w8 s => ?_
  refine tail_end rfl ?_
  refine wpIn_ret ?_
  exact StS.res1 s (t := 4) rfl (fun v W h => by rw [idx3_none (fun j hj => hx.2 j (by omega))]; exact h)
theorem cft_p {m : Nat} {g : V6 → Bool} {W : World} {l f : Value} {ts : List V6} (hl : (SF.row 18 (trs m ts)).p l W) (hf : (SF.fn Tryz.prog (TBt m g)).p f W) (hn : ts.length ≤ 1000000) (hT : Tab W) : Calls Tryz.prog 65 #[l, f] W (Ret W (fB (ts.any g)).toSF) := by
 refine run_st [SF.row 18 (trs m ts), SF.fn Tryz.prog (TBt m g)] Tryz.func65 rfl (by kernel_rfl) ⟨hl, hf, trivial⟩ fun a s => ?_
 refine wpIn_seq ?_
 refine region_go 1 ((4, .u (UF.eq (.bool false))) :: []) hmix s (by kernel_rfl)
  (oc (ok_assign) <| obs_nil) fun a w1 s => ?_
 refine tail_end rfl ?_
 refine wpIn_seq ?_
 replace s := s.drop [4]
 refine region_go 5 ((5, .s (SF.row 18 (trs (m) (ts)))) :: (6, .s (SF.fn Tryz.prog (TBt m g))) :: (7, .s ((UF.eq (.int .i64 (idxV g ts))).toSF)) :: (8, .s ((UF.eq (.bool (decide (idxV g ts ≥ 0)))).toSF)) :: (4, .u (UF.eq (.bool (decide (idxV g ts ≥ 0))))) :: []) hmix s (by kernel_rfl)
  (oc ok_move <| oc ok_move <| oc (ok_call2 wide_wide en_98 (fun u0 u1 W hb (h0 : (SF.row 18 (trs (m) (ts))).p u0 W) (h1 : (SF.fn Tryz.prog (TBt m g)).p u1 W) => ixt_p h0 h1 hn (hT.below (s.up hb)))) <| oc (ok_cmpI .i64 (idxV g ts) (0) (decide (idxV g ts ≥ 0)) iiz iiz rfl rfl) <| oc (ok_assign) <| obs_nil) fun a w2 s => ?_
 refine tail_end rfl ?_
 refine wpIn_ret ?_
 exact StS.res1 s (t := 4) rfl (fun v W h => by rw [← idxV_any]; exact h)
theorem afree1_p {m : Nat} {W : World} {u v r : Value} {t : V6} {rs : List V2} (h1 : (fTR m t).p u W) (h2 : (SF.ptr (CU.is [r]).cf).p v W) (hr_ : (SF.row 6 (pvs m rs)).p r W) (hm : m ≤ 60) (hm0 : 0 < m) (hn : rs.length ≤ 1000000) (hT : Tab W) : Calls Tryz.prog 66 #[u, v] W (Ret W (fB (!(polysB rs (tl t)))).toSF) := by
 refine run_st [(fTR m t).toSF, SF.ptr (CU.is [r]).cf] Tryz.func66 rfl (by kernel_rfl) ⟨h1, h2, trivial⟩ fun a s => ?_
 refine wpIn_seq ?_
 refine region_go 0 [] hmix s (by kernel_rfl)
  obs_nil fun a w1 s => ?_
 refine t_box (CU.agg (fTR (m) (t))) rfl s (by kernel_rfl) (fun v W h => tr_box h) fun b2 a w s => ?_
 refine t_set (UF.eq (.bool false)) rfl s (by kernel_rfl) iiz fun a w s => ?_
 refine tail_end rfl ?_
 refine wpIn_seq ?_
 replace s := s.drop [3]
 refine region_go 5 ((4, .s ((UF.eq r).toSF)) :: (5, .s (SF.row 6 (pvs (m) (tl (t))))) :: (6, .s ((UF.eq (.bool (polysB rs (tl t)))).toSF)) :: (7, .s ((UF.eq (.bool (!(polysB rs (tl t))))).toSF)) :: (3, .u (UF.eq (.bool (!(polysB rs (tl t)))))) :: []) hmix s (by kernel_rfl)
  (oc (ok_load1 (C := (CU.is [r]).cf) (by kernel_rfl) iiz (is_get)) <| oc (ok_sliceA (C := (CU.agg (fTR (m) (t))).cf) 3 30 (by kernel_rfl) (by kernel_rfl) (fun _ _ h => h.2) (fun b o cs W h hm => tr_row h hm)) <| oc (ok_call2 wide_wide en_13 (fun u0 u1 W hb (h0 : u0 = r) (h1 : (SF.row 6 (pvs (m) (tl (t)))).p u1 W) => apolys_p (by rw [show _ = r from h0]; exact (SF.row 6 (pvs (m) (rs))).st _ _ _ hr_ (s.up hb)) h1 hm hm0 hn (by simp) (hT.below (s.up hb)))) <| oc (ok_not (polysB rs (tl t)) iiz (fun _ => rfl)) <| oc (ok_assign) <| obs_nil) fun a w2 s => ?_
 refine tail_end rfl ?_
 refine wpIn_ret ?_
 exact StS.res1 s (t := 3) rfl iiz
theorem newRow_old {W W' : World} {e : TypeId} {z : Nat} {Cs : List CU} (h : W.heap.size ≤ W'.heap.size) (v : Value) (w : World) (hv : (SF.newRow W' e z Cs).p v w) : (SF.newRow W e z Cs).p v w := RowN.mono hv h
theorem sp_plain {u : Value} (h1 : u.cells = #[u]) (h2 : noLimb u = true) (h3 : u.oneCell' = true) (v : Value) (W : World) (h : (UF.eq u).p v W) : v.cells.size = 1 ∧ (∀ u, u ∈ v.cells.toList → u.oneCell' = true) ∧ v.cells.toList.all noLimb = true ∧ ∀ cs, (CU.len 1).p cs W → 0 + 1 ≤ cs.length ∧ (CU.is [u]).p (splice cs 0 v.cells.toList) W := by
 obtain rfl : v = u := h
 rw [h1]
 refine ⟨rfl, fun u hu => by simp at hu; rw [hu]; exact h3, by simp [h2], fun cs hc => ?_⟩
 have hc' : cs.length = 1 := hc
 obtain ⟨c, rfl⟩ := List.length_eq_one_iff.1 hc'
 exact ⟨by simp, rfl⟩
theorem shift_qb {m : Nat} {rs : List V2} {p : V2} (hr : ∀ x, x ∈ rs → QB x.1 m ∧ QB x.2 m) (hp : QB p.1 m ∧ QB p.2 m) : ∀ x, x ∈ shiftV rs p → QB x.1 (2 * m + 1) ∧ QB x.2 (2 * m + 1) := fun x hx => by
 obtain ⟨y, hy, rfl⟩ := List.mem_map.1 hx
 have := hr y hy
 exact ⟨(this.1.add hp.1).mono (by omega), (this.2.add hp.2).mono (by omega)⟩
theorem pvs_qb {m : Nat} (hm0 : 0 < m) {ps : List V2} {v : Value} {W : World} (h : (SF.row 6 (pvs m ps)).p v W) : ∀ x, x ∈ ps → QB x.1 m ∧ QB x.2 m := fun x hx => by
 obtain ⟨i, hi, rfl⟩ := mem_at hx
 obtain ⟨_, _, _, _, _, _, h5⟩ := h
 obtain ⟨b, o, cs, _, _, h6⟩ := h5 i _ (pvs_get hi)
 exact pv_qb hm0 (v := .agg cs.toArray) h6
theorem afree_p {m : Nat} {W : World} {r l v : Value} {rs : List V2} {ts : List V6} {p : V2} (hr_ : (SF.row 6 (pvs m rs)).p r W) (ht : (SF.row 18 (trs m ts)).p l W) (h1 : (fPV m p).p v W) (hm : m ≤ 25) (hm0 : 0 < m) (hn : rs.length ≤ 1000000) (hnt : ts.length ≤ 1000000) (hT : Tab W) : Calls Tryz.prog 27 #[r, l, v] W (Ret W (fB (!(ts.any (fun t => !(polysB (shiftV rs p) (tl t)))))).toSF) := by
 have hsh := shift_qb (pvs_qb hm0 hr_) (pv_qb hm0 h1)
 refine run_st [SF.row 6 (pvs m rs), SF.row 18 (trs m ts), (fPV m p).toSF] Tryz.func27 rfl (by kernel_rfl) ⟨hr_, ht, h1, trivial⟩ fun a s => ?_
 refine wpIn_seq ?_
 refine region_go 0 [] hmix s (by kernel_rfl)
  obs_nil fun a w1 s => ?_
 refine t_box (CU.agg (fPV (m) (p))) rfl s (by kernel_rfl) (fun v W h => pt_box h) fun b5 a w s => ?_
 refine t_set (UF.eq (.bool false)) rfl s (by kernel_rfl) iiz fun a w s => ?_
 refine tail_end rfl ?_
 refine wpIn_seq ?_
 refine region_goN 3 ((8, .s (SF.row 6 (pvs (m) (rs)))) :: (9, .s ((fPV (m) (p)).toSF)) :: (10, .s (SF.newRow w 30 6 (pns (shiftV rs p)))) :: []) hmix s (by kernel_rfl)
  (oc ok_move <| oc (ok_ldW (f := fPV (m) (p)) 6 (by kernel_rfl) (hz := pt_len _ _)) <| oc (ok_call2 wide_wide en_22 (fun u0 u1 W hb (h0 : (SF.row 6 (pvs (m) (rs))).p u0 W) (h1 : (fPV (m) (p)).p u1 W) => (ashift_p h0 h1 (by omega) hm0 hn (hT.below (s.up hb))).mono (Ret.to (newRow_old hb.size)))) <| obs_nil) fun a w2 s hr => ?_
 obtain ⟨v10, e10⟩ : ∃ v, a.tmps.getD 10 undef = v := ⟨_, rfl⟩
 have hv10 : (SF.row 6 (pvs (2 * m + 1) (shiftV rs p))).p v10 w2 := e10 ▸ pns_pvs hsh _ _ (newRow_row _ _ (hr (_, _) mz2))
 have hvp := row_plain hv10
 replace s := s.learn 10 v10 e10
 have hb0 := s.below
 have hT0 := hT
 replace hT := hT.below hb0
 replace s : StS _ _ _ [⟨5, 30, CU.agg (fPV (m) (p)), b5, true⟩] _ _ _ _ := s.freeze
 replace s := s.reb rfl [(10, .u (UF.eq (v10))), (6, .u (UF.eq (.bool false))), (0, .o (SF.row 6 (pvs (m) (rs)))), (1, .o (SF.row 18 (trs (m) (ts)))), (2, .o ((fPV (m) (p)).toSF))] (fmz ⟨.inl (.head _), fmz ⟨.inl mz1, fmz ⟨.inl mz2, fmz ⟨.inl mz3, fmz ⟨.inl mz4, fnz⟩⟩⟩⟩⟩)
 refine t_alloc (CU.len 1) (cs := [.slice none 0 0]) (by kernel_rfl) rfl s (by kernel_rfl) (fun W => rfl) rfl fun b7 a w s => ?_
 refine t_storeP (c := 7) (o := 0) (kk := 1) (CU.is [v10]) ((UF.eq v10).toSF) rfl s (by kernel_rfl) rfl rfl (fun _ _ h => h.1) iiz (sp_plain hvp.1 hvp.2 (row_one hv10)) fun a w s => ?_
 refine tail_end rfl ?_
 refine wpIn_seq ?_
 replace s := s.drop [6]
 refine region_go 5 ((11, .s (SF.row 18 (trs (m) (ts)))) :: (12, .s (SF.fn Tryz.prog (TBt (2 * m + 1) (fun t => !(polysB (shiftV rs p) (tl t)))))) :: (13, .s ((UF.eq (.bool (ts.any (fun t => !(polysB (shiftV rs p) (tl t)))))).toSF)) :: (14, .s ((UF.eq (.bool (!(ts.any (fun t => !(polysB (shiftV rs p) (tl t))))))).toSF)) :: (6, .u (UF.eq (.bool (!(ts.any (fun t => !(polysB (shiftV rs p) (tl t)))))))) :: []) hmix s (by kernel_rfl)
  (oc ok_move <| oc (ok_mkfn1 (fun u W hb (h : (SF.pb b7 (CU.is [v10]).cf).p u W) => fn_one (enters_of Tryz.func66 (by kernel_rfl) rfl) (fun W' hb' args R ⟨u1, t, e, h1, hT', hR⟩ => by subst e hR; simpa using afree1_p h1 ((SF.ptr _).st _ _ _ h.2 hb') ((SF.row 6 _).st _ _ _ ((SF.row 6 _).st _ _ _ hv10 (s.up hb)) hb') (by omega) (by omega) (by rw [shift_len]; exact hn) hT'))) <| oc (ok_call2 wide_wide en_65 (fun u0 u1 W hb (h0 : (SF.row 18 (trs (m) (ts))).p u0 W) (h1 : (SF.fn Tryz.prog (TBt (2 * m + 1) (fun t => !(polysB (shiftV rs p) (tl t))))).p u1 W) => cft_p (trs_mono (by omega) _ _ h0) h1 hnt (hT.below (s.up hb)))) <| oc (ok_not (ts.any (fun t => !(polysB (shiftV rs p) (tl t)))) iiz (fun _ => rfl)) <| oc (ok_assign) <| obs_nil) fun a w3 s => ?_
 refine tail_end rfl ?_
 refine wpIn_ret ?_
 exact StS.resB s hb0 (t := 6) rfl iiz
end Go.Proofs.Wd

namespace Go.Proofs.Wd
set_option maxRecDepth 100000
set_option maxHeartbeats 1000000
open Go.RowKit Lb
abbrev nums (L : List Nat) : List CU := L.map fun z => CU.is [.int .i64 ((z : Nat) : Int)]
theorem nums_snoc (L : List Nat) (k : Nat) : nums (L ++ [k]) = nums L ++ [CU.is [.int .i64 ((k : Nat) : Int)]] := by simp [nums]
def whichK (at_ : List V2) (ts : List V6) (k : Nat) : List Nat := (List.range k).filter fun i => !(polysB at_ (tl (at3 ts i)))
theorem whichK_t {a : List V2} {ts : List V6} {k : Nat} (h : (!(polysB a (tl (at3 ts k)))) = true) : whichK a ts (k + 1) = whichK a ts k ++ [k] := by
 unfold whichK
 rw [List.range_succ, List.filter_append]
 simp [h]
theorem whichK_f {a : List V2} {ts : List V6} {k : Nat} (h : (!(polysB a (tl (at3 ts k)))) = false) : whichK a ts (k + 1) = whichK a ts k := by
 unfold whichK
 rw [List.range_succ, List.filter_append]
 simp [h]
theorem whichK_len (a : List V2) (ts : List V6) (k : Nat) : (whichK a ts k).length ≤ k := by
 have := List.length_filter_le (fun i => !(polysB a (tl (at3 ts i)))) (List.range k)
 rwa [List.length_range] at this
theorem num_ok (z : Int) : ∀ C, C ∈ [CU.is [.int .i64 z]] → CU.ok 1 C := fun C hC cs W h => by
 obtain rfl : C = _ := by simpa using hC
 obtain rfl : cs = _ := h
 exact ⟨rfl, rfl, fun u hu => by obtain rfl := List.mem_singleton.1 hu; rfl⟩
theorem sInt1 (z : Int) : sliceCells Tryz.prog 54 1 [(0, .int .i64 z)] = some (3, #[.int .i64 z]) := by kernel_rfl
theorem sl_int1 {z : Int} {u : Value} {W : World} (h : u = .int .i64 z) : ∃ e cs, sliceCells Tryz.prog 54 1 [(0, u)] = some (e, cs) ∧ (SF.row 1 [CU.is [.int .i64 z]]).p (.slice (some ⟨W.heap.size, 0, none⟩) 1 1) (W.alloc (.cells cs e)) := by
 subst h
 refine ⟨_, _, sInt1 z, some ⟨W.heap.size, 0, none⟩, 1, rfl, Nat.le_refl _, by decide, fun e => (by cases e), fun i C hi => ?_⟩
 have hm := mem_new W #[.int .i64 z] 3
 obtain rfl : i = 0 := by have := (List.getElem?_eq_some_iff.1 hi).1; simp at this; omega
 obtain rfl : CU.is [.int .i64 z] = C := by simpa using hi
 exact ⟨W.heap.size, 0, [.int .i64 z], rfl, hm, rfl⟩
theorem awhich_p {m : Nat} {W : World} {r l v : Value} {rs : List V2} {ts : List V6} {p : V2} (hr_ : (SF.row 6 (pvs m rs)).p r W) (ht : (SF.row 18 (trs m ts)).p l W) (h1 : (fPV m p).p v W) (hm : m ≤ 25) (hm0 : 0 < m) (hn : rs.length ≤ 1000000) (hnt : ts.length ≤ 1000000) (hT : Tab W) : Calls Tryz.prog 28 #[r, l, v] W (Ret W (SF.newRow W 3 1 (nums (whichK (shiftV rs p) ts ts.length)))) := by
 have hsh := shift_qb (pvs_qb hm0 hr_) (pv_qb hm0 h1)
 refine run_st [(UF.eq r).toSF, (UF.eq l).toSF, (fPV m p).toSF] Tryz.func28 rfl (by kernel_rfl) ⟨rfl, rfl, h1, trivial⟩ fun a s => ?_
 replace s := s.renew [(0, .u (UF.eq r)), (1, .u (UF.eq l)), (2, .u (fPV (m) (p)))] (fmz ⟨.inr ⟨_, rfl, .head _⟩, fmz ⟨.inr ⟨_, rfl, mz1⟩, fmz ⟨.inr ⟨_, rfl, mz2⟩, fnz⟩⟩⟩)
 refine wpIn_seq ?_
 refine region_go 0 [] hmix s (by kernel_rfl)
  obs_nil fun a w1 s => ?_
 refine t_box (CU.agg (fPV (m) (p))) rfl s (by kernel_rfl) (fun v W h => pt_box h) fun b5 a w s => ?_
 refine t_set (UF.eq (.slice none 0 0)) rfl s (by kernel_rfl) iiz fun a w s => ?_
 refine tail_end rfl ?_
 refine wpIn_seq ?_
 refine region_goN 3 ((10, .s ((UF.eq r).toSF)) :: (11, .s ((fPV (m) (p)).toSF)) :: (12, .s (SF.newRow w 30 6 (pns (shiftV rs p)))) :: []) hmix s (by kernel_rfl)
  (oc ok_move <| oc (ok_ldW (f := fPV (m) (p)) 6 (by kernel_rfl) (hz := pt_len _ _)) <| oc (ok_call2 wide_wide en_22 (fun u0 u1 W hb (h0 : u0 = r) (h1 : (fPV (m) (p)).p u1 W) => (ashift_p (by rw [show _ = r from h0]; exact (SF.row 6 (pvs (m) (rs))).st _ _ _ hr_ (s.up hb)) h1 (by omega) hm0 hn (hT.below (s.up hb))).mono (Ret.to (newRow_old hb.size)))) <| obs_nil) fun a w2 s hr => ?_
 obtain ⟨v12, e12⟩ : ∃ v, a.tmps.getD 12 undef = v := ⟨_, rfl⟩
 have hv12 : (SF.row 6 (pvs (2 * m + 1) (shiftV rs p))).p v12 w2 := e12 ▸ pns_pvs hsh _ _ (newRow_row _ _ (hr (_, _) mz2))
 replace s := s.learn 12 v12 e12
 have hb0 := s.below
 have hT0 := hT
 replace hT := hT.below hb0
 have ht' := (SF.row 18 (trs m ts)).st _ _ _ ht hb0
 replace s : StS _ _ _ [⟨5, 30, CU.agg (fPV (m) (p)), b5, true⟩] _ _ _ _ := s.freeze
 replace s := s.reb rfl [(12, .u (UF.eq (v12))), (6, .u (UF.eq (.slice none 0 0))), (0, .u (UF.eq r)), (1, .u (UF.eq l)), (2, .u (fPV (m) (p)))] (fmz ⟨.inl (.head _), fmz ⟨.inl mz1, fmz ⟨.inl mz2, fmz ⟨.inl mz3, fmz ⟨.inl mz4, fnz⟩⟩⟩⟩⟩)
 refine t_set (UF.eq v12) rfl s (by kernel_rfl) iiz fun a w s => ?_
 refine tail_end rfl ?_
 refine wpIn_seq ?_
 refine wpIn_seq ?_
 refine region_go 3 ((13, .u (UF.eq l)) :: (14, .u (UF.eq (.int .i64 ((((trs (m) (ts)).length : Nat) : Int))))) :: (15, .u (UF.eq (.int .i64 (0)))) :: []) hmix s (by kernel_rfl)
  (oc ok_move <| oc (ok_lenB (z := 18) (Cs := trs (m) (ts)) (by kernel_rfl) (fun v W hb h => (by rw [show _ = l from h]; exact (SF.row 18 (trs (m) (ts))).st _ _ _ ht' (s.up hb))) (fun _ => rfl)) <| oc ok_move <| obs_nil) fun a w3 s => ?_
 refine tail_end rfl ?_
 refine wpIn_block ?_
 obtain ⟨W1, hW1⟩ : ∃ w', w' = W := ⟨_, rfl⟩
 have sL := s
 obtain ⟨base, hbase⟩ : ∃ b, b = w3.heap.size := ⟨_, rfl⟩
 have hb5 : b5 < base := by rw [hbase]; exact s.old _ (.head _)
 have hbb := s.gr.size
 have hb0' : _ ≤ base := hbase ▸ hbb
 have hsz0 : base ≤ w3.heap.size := by rw [hbase]; exact Nat.le_refl _
 refine st_rows (fun (q : Nat × Value) w => q.1 ≤ ts.length ∧ base ≤ w.heap.size ∧ RowN w base 3 1 q.2 (nums (whichK (shiftV rs p) ts q.1))) (fun q => [(7, .u (UF.eq v12)), (13, .u (UF.eq l)), (14, .u (UF.eq (.int .i64 ((((trs (m) (ts)).length : Nat) : Int))))), (6, .u (UF.eq (q.2))), (15, .u (UF.eq (.int .i64 (((q.1 : Nat) : Int)))))]) (fun q => ts.length - q.1) ((0, .slice none 0 0)) (⟨Nat.zero_le _, hsz0, RowN.nil _ _ _ _⟩) (s.keepK _ (fmz ⟨mz3, fmz ⟨.head _, fmz ⟨mz1, fmz ⟨mz5, fmz ⟨mz2, fnz⟩⟩⟩⟩⟩)) fun q a w hI s => ?_
 have s0 := s
 have hvw := (SF.row 6 _).st _ _ _ hv12 s0.below
 have htw := (SF.row 18 _).st _ _ _ ht' s0.below
 have hT0 := hT
 have hT := hT0.below s0.below
 replace s := s.reb rfl [(7, .u (UF.eq v12)), (13, .u (UF.eq l)), (14, .u (UF.eq (.int .i64 ((((trs (m) (ts)).length : Nat) : Int))))), (6, .u (UF.eq (q.2))), (15, .u (UF.eq (.int .i64 (((q.1 : Nat) : Int)))))] (fmz ⟨.inl (.head _), fmz ⟨.inl mz1, fmz ⟨.inl mz2, fmz ⟨.inl mz3, fmz ⟨.inl mz4, fnz⟩⟩⟩⟩⟩)
 refine wpIn_seq ?_
 refine region_go 1 ((16, .u (UF.eq (.bool (decide (((q.1 : Nat) : Int) < (((trs (m) (ts)).length : Nat) : Int)))))) :: []) hmix s (by kernel_rfl)
  (oc (ok_cmpI .i64 (((q.1 : Nat) : Int)) ((((trs (m) (ts)).length : Nat) : Int)) (decide (((q.1 : Nat) : Int) < (((trs (m) (ts)).length : Nat) : Int))) iiz iiz rfl rfl) <| obs_nil) fun a w4 s => ?_
 refine tail_end rfl ?_
 refine wpIn_seq ?_
 refine StS.cond s (decide (((q.1 : Nat) : Int) < (((trs (m) (ts)).length : Nat) : Int))) iiz (fun e => ?_) (fun e => ?_)
 ·have hk : q.1 < ts.length := by have := of_decide_eq_true e; simp at this; omega
  refine wpIn_skip ?_
  refine wpIn_seq ?_
  refine wpIn_block ?_
  refine wpIn_seq ?_
  refine region_go 3 ((17, .u (UF.eq (.int .i64 (((q.1 : Nat) : Int))))) :: (18, .s (SF.ptr (CU.agg (fTR (m) ((at3 ts q.1)))).cf)) :: (19, .u (fTR (m) ((at3 ts q.1)))) :: []) hmix s (by kernel_rfl)
   (oc ok_move <| oc (ok_indexB (z := 18) (Cs := trs (m) (ts)) (i := q.1) (C := CU.agg (fTR (m) ((at3 ts q.1)))) (by kernel_rfl) (trs_get hk) (fun v W hb h => (by rw [show _ = l from h]; exact (SF.row 18 (trs (m) (ts))).st _ _ _ htw (s.up hb))) iiz) <| oc (ok_ldW (f := fTR (m) ((at3 ts q.1))) 18 (by kernel_rfl) (hz := tr_len _ _)) <| obs_nil) fun a w5 s => ?_
  refine t_alloc (CU.len 18) (cs := [.bool false, .slice none 0 0, .slice none 0 0, .bool false, .slice none 0 0, .slice none 0 0, .bool false, .slice none 0 0, .slice none 0 0, .bool false, .slice none 0 0, .slice none 0 0, .bool false, .slice none 0 0, .slice none 0 0, .bool false, .slice none 0 0, .slice none 0 0]) (by kernel_rfl) rfl s (by kernel_rfl) (fun W => rfl) rfl fun b9 a w s => ?_
  refine t_set (UF.eq (.int .i64 (((q.1 : Nat) : Int)))) rfl s (by kernel_rfl) iiz fun a w s => ?_
  refine t_store (CU.agg (fTR (m) ((at3 ts q.1)))) ((fTR (m) ((at3 ts q.1))).toSF) rfl s (by kernel_rfl) rfl rfl rfl iiz iiz (tr_store) fun a w s => ?_
  refine tail_end rfl ?_
  refine wpIn_seq ?_
  refine region_go 4 ((20, .s ((UF.eq v12).toSF)) :: (21, .s (SF.row 6 (pvs (m) (tl ((at3 ts q.1)))))) :: (22, .s ((UF.eq (.bool (polysB (shiftV rs p) (tl (at3 ts q.1))))).toSF)) :: (23, .u (UF.eq (.bool (!(polysB (shiftV rs p) (tl (at3 ts q.1))))))) :: []) hmix s (by kernel_rfl)
   (oc ok_move <| oc (ok_sliceA (C := (CU.agg (fTR (m) ((at3 ts q.1)))).cf) 3 30 (by kernel_rfl) (by kernel_rfl) (fun _ _ h => h.2) (fun b o cs W h hm => tr_row h hm)) <| oc (ok_call2 wide_wide en_13 (fun u0 u1 W hb (h0 : u0 = v12) (h1 : (SF.row 6 (pvs (m) (tl ((at3 ts q.1))))).p u1 W) => apolys_p (m := 2 * m + 1) (by rw [show _ = v12 from h0]; exact (SF.row 6 (pvs ((2 * m + 1)) (shiftV rs p))).st _ _ _ hvw (s.up hb)) (pvs_mono (by omega) _ _ h1) (by omega) (by omega) (by rw [shift_len]; exact hn) (by simp) (hT.below (s.up hb)))) <| oc (ok_not (polysB (shiftV rs p) (tl (at3 ts q.1))) iiz (fun _ => rfl)) <| obs_nil) fun a w6 s => ?_
  refine tail_end rfl ?_
  refine StS.cond s (!(polysB (shiftV rs p) (tl (at3 ts q.1)))) iiz (fun e => ?_) (fun e => ?_)
  ·refine region_goSN 3 ((24, .u (UF.eq (q.2))) :: (25, .s ((UF.eq (.int .i64 (((q.1 : Nat) : Int)))).toSF)) :: (26, .s (SF.row 1 [CU.is [.int .i64 (((q.1 : Nat) : Int))]])) :: []) s (by kernel_rfl)
    (oc ok_move <| oc ok_move <| oc (ok_slice1 (fun u W (hu : u = .int .i64 (((q.1 : Nat) : Int))) => sl_int1 hu)) <| obs_nil) fun a w7 s hr => ?_
   refine t_app ([CU.is [.int .i64 (((q.1 : Nat) : Int))]]) s0 (s.keepK [(24, .u (UF.eq (q.2))), (23, .u (UF.eq (.bool (!(polysB (shiftV rs p) (tl (at3 ts q.1))))))), (8, .u (UF.eq (.int .i64 (((q.1 : Nat) : Int))))), (17, .u (UF.eq (.int .i64 (((q.1 : Nat) : Int))))), (19, .u (fTR (m) ((at3 ts q.1)))), (16, .u (UF.eq (.bool (decide (((q.1 : Nat) : Int) < (((trs (m) (ts)).length : Nat) : Int)))))), (7, .u (UF.eq v12)), (13, .u (UF.eq l)), (14, .u (UF.eq (.int .i64 ((((trs (m) (ts)).length : Nat) : Int))))), (6, .u (UF.eq (q.2))), (15, .u (UF.eq (.int .i64 (((q.1 : Nat) : Int)))))] (fmz ⟨.head _, fmz ⟨mz1, fmz ⟨mz2, fmz ⟨mz3, fmz ⟨mz4, fmz ⟨mz5, fmz ⟨mz6, fmz ⟨mz7, fmz ⟨mz8, fmz ⟨mz9, fmz ⟨mz10, fnz⟩⟩⟩⟩⟩⟩⟩⟩⟩⟩⟩)) hb0' hI.2 rfl (by kernel_rfl) (by kernel_rfl) (by kernel_rfl) (s.fct (.tmp 24)) (hr (_, _) mz2) (num_ok _) (by have := whichK_len (shiftV rs p) ts q.1; simp; omega) (fun x hx hr => by rcases List.mem_cons.1 hx with rfl | hx; cases hr; rcases List.mem_cons.1 hx with rfl | hx; exact hb5; cases hx) fun v' a w hI' s => ?_
   have s1 := s
   replace s : StS _ _ _ [⟨9, 51, CU.agg (fTR (m) ((at3 ts q.1))), b9, true⟩, ⟨5, 30, CU.agg (fPV (m) (p)), b5, true⟩] _ _ _ _ := s.freeze
   replace s := s.reb rfl [(27, .u (UF.eq (v'))), (24, .u (UF.eq (q.2))), (23, .u (UF.eq (.bool (!(polysB (shiftV rs p) (tl (at3 ts q.1))))))), (8, .u (UF.eq (.int .i64 (((q.1 : Nat) : Int))))), (17, .u (UF.eq (.int .i64 (((q.1 : Nat) : Int))))), (19, .u (fTR (m) ((at3 ts q.1)))), (16, .u (UF.eq (.bool (decide (((q.1 : Nat) : Int) < (((trs (m) (ts)).length : Nat) : Int)))))), (7, .u (UF.eq v12)), (13, .u (UF.eq l)), (14, .u (UF.eq (.int .i64 ((((trs (m) (ts)).length : Nat) : Int))))), (6, .u (UF.eq (q.2))), (15, .u (UF.eq (.int .i64 (((q.1 : Nat) : Int)))))] (fmz ⟨.inl (.head _), fmz ⟨.inl mz1, fmz ⟨.inl mz2, fmz ⟨.inl mz3, fmz ⟨.inl mz4, fmz ⟨.inl mz5, fmz ⟨.inl mz6, fmz ⟨.inl mz7, fmz ⟨.inl mz8, fmz ⟨.inl mz9, fmz ⟨.inl mz10, fmz ⟨.inl mz11, fnz⟩⟩⟩⟩⟩⟩⟩⟩⟩⟩⟩⟩)
   replace s := s.drop [6]
   refine t_set (UF.eq (v')) rfl s (by kernel_rfl) iiz fun a w s => ?_
   refine tail_end rfl ?_
   refine region_goS 1 ((28, .u (UF.eq (.int .i64 (((q.1 + 1 : Nat) : Int))))) :: []) s (by kernel_rfl)
    (oc (ok_addI .i64 (((q.1 : Nat) : Int)) (1) (((q.1 + 1 : Nat) : Int)) iiz iiz (wrap64 _ _ (by omega) (by omega))) <| obs_nil) fun a w8 s => ?_
   replace s := s.drop [15]
   refine t_gd (UF.eq (.int .i64 (((q.1 + 1 : Nat) : Int)))) rfl s (by kernel_rfl) (ok_move) (by kernel_rfl) fun a w s => ?_
   refine tail_end rfl ?_
   replace s := s.popB
   have hbw := s.below
   replace s := s1.back (s.keepK [(15, .u (UF.eq (.int .i64 (((q.1 + 1 : Nat) : Int))))), (28, .u (UF.eq (.int .i64 (((q.1 + 1 : Nat) : Int))))), (6, .u (UF.eq (v'))), (27, .u (UF.eq (v'))), (24, .u (UF.eq (q.2))), (23, .u (UF.eq (.bool (!(polysB (shiftV rs p) (tl (at3 ts q.1))))))), (8, .u (UF.eq (.int .i64 (((q.1 : Nat) : Int))))), (17, .u (UF.eq (.int .i64 (((q.1 : Nat) : Int))))), (19, .u (fTR (m) ((at3 ts q.1)))), (16, .u (UF.eq (.bool (decide (((q.1 : Nat) : Int) < (((trs (m) (ts)).length : Nat) : Int)))))), (7, .u (UF.eq v12)), (13, .u (UF.eq l)), (14, .u (UF.eq (.int .i64 ((((trs (m) (ts)).length : Nat) : Int)))))] (fmz ⟨.head _, fmz ⟨mz1, fmz ⟨mz2, fmz ⟨mz3, fmz ⟨mz4, fmz ⟨mz5, fmz ⟨mz6, fmz ⟨mz7, fmz ⟨mz8, fmz ⟨mz9, fmz ⟨mz10, fmz ⟨mz11, fmz ⟨mz12, fnz⟩⟩⟩⟩⟩⟩⟩⟩⟩⟩⟩⟩⟩)) rfl
   exact ⟨(q.1 + 1, v'), (by show ts.length - (q.1 + 1) < ts.length - q.1; omega), ⟨hk, Nat.le_trans hI'.1 hbw.size, by show RowN _ _ _ _ _ (nums (whichK _ _ (q.1 + 1))); rw [whichK_t e, nums_snoc]; exact hI'.2.below hbw⟩, s.keepK _ (fmz ⟨mz10, fmz ⟨mz11, fmz ⟨mz12, fmz ⟨mz2, fmz ⟨.head _, fnz⟩⟩⟩⟩⟩)⟩
  ·refine wpIn_skip ?_
   refine region_goS 1 ((28, .u (UF.eq (.int .i64 (((q.1 + 1 : Nat) : Int))))) :: []) s (by kernel_rfl)
    (oc (ok_addI .i64 (((q.1 : Nat) : Int)) (1) (((q.1 + 1 : Nat) : Int)) iiz iiz (wrap64 _ _ (by omega) (by omega))) <| obs_nil) fun a w9 s => ?_
   replace s := s.drop [15]
   refine t_gd (UF.eq (.int .i64 (((q.1 + 1 : Nat) : Int)))) rfl s (by kernel_rfl) (ok_move) (by kernel_rfl) fun a w s => ?_
   refine tail_end rfl ?_
   replace s := s.popB
   have hbw := s.below
   replace s := s0.back (s.keepK [(15, .u (UF.eq (.int .i64 (((q.1 + 1 : Nat) : Int))))), (28, .u (UF.eq (.int .i64 (((q.1 + 1 : Nat) : Int))))), (23, .u (UF.eq (.bool (!(polysB (shiftV rs p) (tl (at3 ts q.1))))))), (8, .u (UF.eq (.int .i64 (((q.1 : Nat) : Int))))), (17, .u (UF.eq (.int .i64 (((q.1 : Nat) : Int))))), (19, .u (fTR (m) ((at3 ts q.1)))), (16, .u (UF.eq (.bool (decide (((q.1 : Nat) : Int) < (((trs (m) (ts)).length : Nat) : Int)))))), (7, .u (UF.eq v12)), (13, .u (UF.eq l)), (14, .u (UF.eq (.int .i64 ((((trs (m) (ts)).length : Nat) : Int))))), (6, .u (UF.eq (q.2)))] (fmz ⟨.head _, fmz ⟨mz1, fmz ⟨mz2, fmz ⟨mz3, fmz ⟨mz4, fmz ⟨mz5, fmz ⟨mz6, fmz ⟨mz7, fmz ⟨mz8, fmz ⟨mz9, fmz ⟨mz10, fnz⟩⟩⟩⟩⟩⟩⟩⟩⟩⟩⟩)) rfl
   exact ⟨(q.1 + 1, q.2), (by show ts.length - (q.1 + 1) < ts.length - q.1; omega), ⟨hk, Nat.le_trans hI.2.1 hbw.size, by show RowN _ _ _ _ _ (nums (whichK _ _ (q.1 + 1))); rw [whichK_f e]; exact hI.2.2.below hbw⟩, s.keepK _ (fmz ⟨mz7, fmz ⟨mz8, fmz ⟨mz9, fmz ⟨mz10, fmz ⟨.head _, fnz⟩⟩⟩⟩⟩)⟩
 ·have hk : q.1 = ts.length := by have h7 := of_decide_eq_false e; have h8 := hI.1; simp at h7; omega
  refine wpIn_exit ?_
  refine wpIn_seq ?_
  refine region_goS 1 ((29, .u (UF.eq (q.2))) :: []) s (by kernel_rfl)
   (oc ok_move <| obs_nil) fun a w10 s => ?_
  replace s := s.drop [6]
  refine t_set (UF.eq (q.2)) rfl s (by kernel_rfl) iiz fun a w s => ?_
  refine tail_end rfl ?_
  refine wpIn_ret ?_
  exact StS.resN s (hb0.trans (s0.below.mono hb0.size)) rfl (by rw [s.val (.head _)]; have := (hI.2.2.below s.below).mono (Nat.le_trans hb0.size hb0'); rw [hk] at this; exact this)
end Go.Proofs.Wd

namespace Go.Proofs.Wd
set_option maxRecDepth 100000
set_option maxHeartbeats 1000000
open Go.RowKit Lb
abbrev PX := QX × QX
abbrev PX.p (x : PX) : V2 := (x.1.q, x.2.q)
abbrev PX.u (x : PX) : UF := fPT (fQX x.1.n x.1.n' x.1.k x.1.d) (fQX x.2.n x.2.n' x.2.k x.2.d)
abbrev PX.cu (x : PX) : CU := CU.agg x.u
abbrev pxs (L : List PX) : List CU := L.map PX.cu
abbrev pps (L : List PX) : List V2 := L.map PX.p
def PX.big (x : PX) : Bool := decide (2 < max (max (max x.1.n x.1.n') x.2.n) x.2.n')
def gPt (L : List PX) : Bool := (L.take 9).any PX.big || decide (8 < L.length)
theorem px_pv {x : PX} (h : x.big = false) {v : Value} {W : World} (hv : x.u.p v W) : (fPV 2 x.p).p v W := by
 have h := of_decide_eq_false h
 exact pt_weak (fun v W h' => rv_x h' (by omega) (by omega)) (fun v W h' => rv_x h' (by omega) (by omega)) hv
theorem gPt_f {L : List PX} (h : gPt L = false) : L.length ≤ 8 ∧ ∀ x, x ∈ L → x.big = false := by
 unfold gPt at h
 rw [Bool.or_eq_false_iff] at h
 have h2 := of_decide_eq_false h.2
 refine ⟨by omega, fun x hx => ?_⟩
 have h1 := List.any_eq_false.1 h.1 x (by rw [List.take_of_length_le (by omega)]; exact hx)
 simpa using h1
theorem pxs_pvs {L : List PX} (h : gPt L = false) (v : Value) (W : World) (hv : (SF.row 6 (pxs L)).p v W) : (SF.row 6 (pvs 2 (pps L))).p v W :=
 row_imp (by simp) (fun i C D hC hD cs W hh => by
  have hi : i < L.length := by have := (List.getElem?_eq_some_iff.1 hC).1; simpa using this
  rw [List.getElem?_map, List.getElem?_eq_getElem hi] at hC
  rw [List.getElem?_map, List.getElem?_map, List.getElem?_eq_getElem hi] at hD
  cases hC; cases hD
  exact px_pv ((gPt_f h).2 _ (List.getElem_mem hi)) hh) v W hv
theorem pqx1 {x : PX} (cs : List Value) (W : World) (h : (PX.cu x).p cs W) : ∃ u, cs[1]? = some u ∧ (fSl x.1.n).p u W := by
 obtain ⟨s, A, n, c, A', n', c', s2, B, k, d, B', k', d', e, h1, h2⟩ := h
 rw [cells6 e]
 have := qx_abs _ W (show (QX.cu x.1).p [Value.bool s, .slice A n c, .slice A' n' c'] W from h1)
 exact this
theorem pqx2 {x : PX} (cs : List Value) (W : World) (h : (PX.cu x).p cs W) : ∃ u, cs[2]? = some u ∧ (fSl x.1.n').p u W := by
 obtain ⟨s, A, n, c, A', n', c', s2, B, k, d, B', k', d', e, h1, h2⟩ := h
 rw [cells6 e]
 have := qx_den _ W (show (QX.cu x.1).p [Value.bool s, .slice A n c, .slice A' n' c'] W from h1)
 exact this
theorem pqx4 {x : PX} (cs : List Value) (W : World) (h : (PX.cu x).p cs W) : ∃ u, cs[4]? = some u ∧ (fSl x.2.n).p u W := by
 obtain ⟨s, A, n, c, A', n', c', s2, B, k, d, B', k', d', e, h1, h2⟩ := h
 rw [cells6 e]
 have := qx_abs _ W (show (QX.cu x.2).p [Value.bool s2, .slice B k d, .slice B' k' d'] W from h2)
 exact this
theorem pqx5 {x : PX} (cs : List Value) (W : World) (h : (PX.cu x).p cs W) : ∃ u, cs[5]? = some u ∧ (fSl x.2.n').p u W := by
 obtain ⟨s, A, n, c, A', n', c', s2, B, k, d, B', k', d', e, h1, h2⟩ := h
 rw [cells6 e]
 have := qx_den _ W (show (QX.cu x.2).p [Value.bool s2, .slice B k d, .slice B' k' d'] W from h2)
 exact this
section
variable {F : Fence} {m : Nat} {P : Program} {w0 : World} {ops : Array Oper} {G : Nat → SF} {d : Tmp} {ty : TypeId} {pos : String} {aft : Array Edge}
theorem ok_max4 {x y z u : Operand} {ats : Array TypeId} (a b c e : Nat) (hx : ∀ q W, (fct G x).p q W → q = .int .i64 (a : Nat)) (hy : ∀ q W, (fct G y).p q W → q = .int .i64 (b : Nat)) (hz : ∀ q W, (fct G z).p q W → q = .int .i64 (c : Nat)) (hu : ∀ q W, (fct G u).p q W → q = .int .i64 (e : Nat)) (hd : ∀ W, (G d).p (.int .i64 ((max (max (max a b) c) e : Nat) : Int)) W := by exact fun _ => rfl) : GdOK F m P w0 ops G ⟨some d, .call ⟨.builtin .max, #[x, y, z, u], ats⟩, ty, pos, aft, none⟩ := by
 intro bb W K Q hb hr hK
 have e1 := hx _ _ (fct_holds hr (x := x) (by simp [Op.operands, Call.operands]))
 have e2 := hy _ _ (fct_holds hr (x := y) (by simp [Op.operands, Call.operands]))
 have e3 := hz _ _ (fct_holds hr (x := z) (by simp [Op.operands, Call.operands]))
 have e4 := hu _ _ (fct_holds hr (x := u) (by simp [Op.operands, Call.operands]))
 refine ⟨fun f hf => (by
  unfold Oper.about at hf
  simp [resolve, go_sem] at hf), ?_⟩
 rw [Oper.semAt_eq _ _ _ (fun _ e => by cases e)]
 have : (execOp bb.eval ⟨some d, .call ⟨.builtin .max, #[x, y, z, u], ats⟩, ty, pos, aft, none⟩).run P W = .ok (.value (.int .i64 ((max (max (max a b) c) e : Nat) : Int))) W := by
  have m2 : ∀ p q : Nat, (if (p : Int) < (q : Int) then Value.int .i64 (q : Nat) else .int .i64 (p : Nat)) = .int .i64 ((max p q : Nat) : Int) := fun p q => by
   split <;> (congr 1; omega)
  simp only [execOp, resolve, invoke, builtin, e1, e2, e3, e4, Sem.run_bind, Sem.run_pure, Result.andThen_ok, List.map_toArray, List.map_cons, List.map_nil]
  simp [Builtin.max_, Builtin.max2, m2, Sem.run_bind, Sem.run_pure]
  have m3 : ∀ p q : Nat, (if (p : Int) < (q : Int) then (q : Int) else (p : Int)) = ((max p q : Nat) : Int) := fun p q => by split <;> omega
  try simp only [m3]
  try (congr 1; omega)
 rw [this]
 exact hK _ _ (fun d' e' => by cases e'; exact hd _) (Below.refl _ _)
end
theorem gPt_big {L : List PX} {k : Nat} {x : PX} (hk : k ≤ 8) (hx : L[k]? = some x) (h : x.big = true) : gPt L = true := by
 unfold gPt
 rw [Bool.or_eq_true]
 left
 refine List.any_eq_true.2 ⟨x, ?_, h⟩
 have hlt := (List.getElem?_eq_some_iff.1 hx).1
 exact List.mem_of_getElem? (i := k) (by rw [List.getElem?_take, if_pos (by omega)]; exact hx)
theorem gPt_end {L : List PX} (h : ∀ j y, j < 9 → L[j]? = some y → PX.big y = false) : gPt L = decide ((((pxs L).length : Nat) : Int) > 8) := by
 unfold gPt
 have : (L.take 9).any PX.big = false := by
  refine List.any_eq_false.2 fun x hx => ?_
  obtain ⟨j, hj⟩ := List.getElem?_of_mem hx
  rw [List.getElem?_take] at hj
  split at hj
  ·rename_i hlt
   rw [h j x hlt hj]; simp
  ·cases hj
 rw [this, Bool.false_or, decide_eq_decide, List.length_map]
 omega
theorem r18great_p {L : List PX} {W : World} {l : Value} (hl : (SF.row 6 (pxs L)).p l W) : Calls Tryz.prog 10 #[l] W (Ret W (fB (gPt L)).toSF) := by
 refine run_st [SF.row 6 (pxs L)] Tryz.func10 rfl (by kernel_rfl) ⟨hl, trivial⟩ fun a s => ?_
 refine wpIn_seq ?_
 refine region_go 1 ((2, .u (UF.eq (.bool false))) :: []) hmix s (by kernel_rfl)
  (oc (ok_assign) <| obs_nil) fun a w1 s => ?_
 refine tail_end rfl ?_
 refine wpIn_seq ?_
 refine wpIn_seq ?_
 refine region_go 1 ((3, .u (UF.eq (.int .i64 (0)))) :: []) hmix s (by kernel_rfl)
  (oc (ok_assign) <| obs_nil) fun a w2 s => ?_
 refine tail_end rfl ?_
 refine wpIn_block ?_
 refine st_whileK (fun k => k ≤ L.length ∧ k ≤ 9 ∧ ∀ j y, j < k → L[j]? = some y → PX.big y = false) (fun k => [(0, .o (SF.row 6 (pxs L))), (3, .u (UF.eq (.int .i64 (((k : Nat) : Int)))))]) (fun k => 9 - k) ((0 : Nat)) (⟨Nat.zero_le _, by omega, fun j y hj => absurd hj (Nat.not_lt_zero _)⟩) (s.keepK _ (fmz ⟨mz2, fmz ⟨.head _, fnz⟩⟩)) fun k a w hx s => ?_
 refine wpIn_seq ?_
 refine wpIn_seq ?_
 refine region_go 8 ((4, .s ((UF.eq (.int .i64 (((k : Nat) : Int)))).toSF)) :: (5, .s (SF.row 6 (pxs L))) :: (6, .s ((UF.eq (.int .i64 ((((pxs L).length : Nat) : Int)))).toSF)) :: (7, .s ((UF.eq (.bool (decide (((k : Nat) : Int) < (((pxs L).length : Nat) : Int))))).toSF)) :: (8, .s ((UF.eq (.bool (decide (((k : Nat) : Int) < (((pxs L).length : Nat) : Int))))).toSF)) :: (9, .s (SF.imp ((decide (((k : Nat) : Int) < (((pxs L).length : Nat) : Int))) = true) ((UF.eq (.int .i64 (((k : Nat) : Int)))).toSF))) :: (10, .s (SF.imp ((decide (((k : Nat) : Int) < (((pxs L).length : Nat) : Int))) = true) ((UF.eq (.bool (decide (((k : Nat) : Int) ≤ 8)))).toSF))) :: (11, .u (UF.eq (.bool ((decide (((k : Nat) : Int) < (((pxs L).length : Nat) : Int))) && (decide (((k : Nat) : Int) ≤ 8)))))) :: []) hmix s (by kernel_rfl)
  (oc ok_move <| oc ok_move <| oc (ok_lenR (z := 6) (Cs := pxs L) (by kernel_rfl) iiz (fun _ => rfl)) <| oc (ok_cmpI .i64 (((k : Nat) : Int)) ((((pxs L).length : Nat) : Int)) (decide (((k : Nat) : Int) < (((pxs L).length : Nat) : Int))) iiz iiz rfl rfl) <| oc ok_move <| oc (ok_guard 8 (decide (((k : Nat) : Int) < (((pxs L).length : Nat) : Int))) (by kernel_rfl) iiz (fun e => gd_imp [] ((UF.eq (.int .i64 (((k : Nat) : Int)))).toSF) (fnz) (fun _ _ h _ => h) (by kernel_rfl) (ok_move)) (fun e W h => absurd h e)) <| oc (ok_guard 8 (decide (((k : Nat) : Int) < (((pxs L).length : Nat) : Int))) (by kernel_rfl) iiz (fun e => gd_imp [(9, (UF.eq (.int .i64 (((k : Nat) : Int)))).toSF)] ((UF.eq (.bool (decide (((k : Nat) : Int) ≤ 8)))).toSF) (fmz ⟨fun v W h => imp_app (c := (decide (((k : Nat) : Int) < (((pxs L).length : Nat) : Int))) = true) (f := (UF.eq (.int .i64 (((k : Nat) : Int)))).toSF) e h, fnz⟩) (fun _ _ h _ => h) (by kernel_rfl) (ok_cmpI .i64 (((k : Nat) : Int)) (8) (decide (((k : Nat) : Int) ≤ 8)) iiz iiz rfl rfl)) (fun e W h => absurd h e)) <| oc (ok_pick (decide (((k : Nat) : Int) < (((pxs L).length : Nat) : Int))) iiz (fun e v W h => pick_and (imp_app e h) e) (fun e v W h => pick_and' h e)) <| obs_nil) fun a w3 s => ?_
 refine tail_end rfl ?_
 refine StS.cond s ((decide (((k : Nat) : Int) < (((pxs L).length : Nat) : Int))) && (decide (((k : Nat) : Int) ≤ 8))) iiz (fun e => ?_) (fun e => ?_)
 ·rw [Bool.and_eq_true] at e
  have hk1 : k < L.length := by have := of_decide_eq_true e.1; simp at this; omega
  have hk2 : k ≤ 8 := by have := of_decide_eq_true e.2; omega
  obtain ⟨x, hxl⟩ : ∃ x, L[k]? = some x := ⟨_, List.getElem?_eq_getElem hk1⟩
  have hx_ : (pxs L)[k]? = some (PX.cu x) := by rw [List.getElem?_map, hxl]; rfl
  refine wpIn_skip ?_
  refine wpIn_seq ?_
  refine wpIn_block ?_
  refine wpIn_seq ?_
  refine region_go 32 ((14, .s (SF.row 6 (pxs L))) :: (15, .s ((UF.eq (.int .i64 (((k : Nat) : Int)))).toSF)) :: (16, .s (SF.ptr (PX.cu x).cf)) :: (17, .s (SF.ptr ((PX.cu x).cf.at 0))) :: (18, .s (SF.ptr ((PX.cu x).cf.at 0))) :: (19, .s (SF.ptr ((PX.cu x).cf.at 1))) :: (20, .s ((fSl (x.1.n)).toSF)) :: (21, .s ((UF.eq (.int .i64 (((x.1.n : Nat) : Int)))).toSF)) :: (22, .s (SF.row 6 (pxs L))) :: (23, .s ((UF.eq (.int .i64 (((k : Nat) : Int)))).toSF)) :: (24, .s (SF.ptr (PX.cu x).cf)) :: (25, .s (SF.ptr ((PX.cu x).cf.at 0))) :: (26, .s (SF.ptr ((PX.cu x).cf.at 2))) :: (27, .s ((fSl (x.1.n')).toSF)) :: (28, .s ((UF.eq (.int .i64 (((x.1.n' : Nat) : Int)))).toSF)) :: (29, .s (SF.row 6 (pxs L))) :: (30, .s ((UF.eq (.int .i64 (((k : Nat) : Int)))).toSF)) :: (31, .s (SF.ptr (PX.cu x).cf)) :: (32, .s (SF.ptr ((PX.cu x).cf.at 3))) :: (33, .s (SF.ptr ((PX.cu x).cf.at 3))) :: (34, .s (SF.ptr ((PX.cu x).cf.at 4))) :: (35, .s ((fSl (x.2.n)).toSF)) :: (36, .s ((UF.eq (.int .i64 (((x.2.n : Nat) : Int)))).toSF)) :: (37, .s (SF.row 6 (pxs L))) :: (38, .s ((UF.eq (.int .i64 (((k : Nat) : Int)))).toSF)) :: (39, .s (SF.ptr (PX.cu x).cf)) :: (40, .s (SF.ptr ((PX.cu x).cf.at 3))) :: (41, .s (SF.ptr ((PX.cu x).cf.at 5))) :: (42, .s ((fSl (x.2.n')).toSF)) :: (43, .s ((UF.eq (.int .i64 (((x.2.n' : Nat) : Int)))).toSF)) :: (44, .s ((UF.eq (.int .i64 (((max (max (max x.1.n x.1.n') x.2.n) x.2.n' : Nat) : Int)))).toSF)) :: (45, .u (UF.eq (.bool (PX.big x)))) :: []) hmix s (by kernel_rfl)
   (oc ok_move <| oc ok_move <| oc (ok_index (z := 6) (Cs := pxs L) (i := k) (C := PX.cu x) (by kernel_rfl) hx_ iiz iiz) <| oc (ok_fld (C := (PX.cu x).cf) 0 (by kernel_rfl)) <| oc (ok_fldn (C := (PX.cu x).cf) 0 0 (by kernel_rfl)) <| oc (ok_fldn (C := (PX.cu x).cf) 0 1 (by kernel_rfl)) <| oc (ok_ld (C := (PX.cu x).cf) (k := 1) (by kernel_rfl) (h := pqx1)) <| oc (ok_len (by kernel_rfl) (fun v W ⟨A, c, e⟩ => ⟨A, x.1.n, c, e, rfl⟩)) <| oc ok_move <| oc ok_move <| oc (ok_index (z := 6) (Cs := pxs L) (i := k) (C := PX.cu x) (by kernel_rfl) hx_ iiz iiz) <| oc (ok_fld (C := (PX.cu x).cf) 0 (by kernel_rfl)) <| oc (ok_fldn (C := (PX.cu x).cf) 0 2 (by kernel_rfl)) <| oc (ok_ld (C := (PX.cu x).cf) (k := 2) (by kernel_rfl) (h := pqx2)) <| oc (ok_len (by kernel_rfl) (fun v W ⟨A, c, e⟩ => ⟨A, x.1.n', c, e, rfl⟩)) <| oc ok_move <| oc ok_move <| oc (ok_index (z := 6) (Cs := pxs L) (i := k) (C := PX.cu x) (by kernel_rfl) hx_ iiz iiz) <| oc (ok_fld (C := (PX.cu x).cf) 3 (by kernel_rfl)) <| oc (ok_fldn (C := (PX.cu x).cf) 3 0 (by kernel_rfl)) <| oc (ok_fldn (C := (PX.cu x).cf) 3 1 (by kernel_rfl)) <| oc (ok_ld (C := (PX.cu x).cf) (k := 4) (by kernel_rfl) (h := pqx4)) <| oc (ok_len (by kernel_rfl) (fun v W ⟨A, c, e⟩ => ⟨A, x.2.n, c, e, rfl⟩)) <| oc ok_move <| oc ok_move <| oc (ok_index (z := 6) (Cs := pxs L) (i := k) (C := PX.cu x) (by kernel_rfl) hx_ iiz iiz) <| oc (ok_fld (C := (PX.cu x).cf) 3 (by kernel_rfl)) <| oc (ok_fldn (C := (PX.cu x).cf) 3 2 (by kernel_rfl)) <| oc (ok_ld (C := (PX.cu x).cf) (k := 5) (by kernel_rfl) (h := pqx5)) <| oc (ok_len (by kernel_rfl) (fun v W ⟨A, c, e⟩ => ⟨A, x.2.n', c, e, rfl⟩)) <| oc (ok_max4 (x.1.n) (x.1.n') (x.2.n) (x.2.n') iiz iiz iiz iiz) <| oc (ok_cmpI .i64 (((max (max (max x.1.n x.1.n') x.2.n) x.2.n' : Nat) : Int)) 2 (PX.big x) iiz iiz (by unfold PX.big; show decide (((max (max (max x.1.n x.1.n') x.2.n) x.2.n' : Nat) : Int) > 2) = _; rw [decide_eq_decide]; omega) rfl) <| obs_nil) fun a w4 s => ?_
  refine tail_end rfl ?_
  refine StS.cond s (PX.big x) iiz (fun e => ?_) (fun e => ?_)
  ·refine wpIn_seq ?_
   refine region_go 1 ((2, .u (UF.eq (.bool true))) :: []) hmix s (by kernel_rfl)
    (oc (ok_assign) <| obs_nil) fun a w5 s => ?_
   refine tail_end rfl ?_
   refine wpIn_ret ?_
   exact StS.res1 s (t := 2) rfl (fun v W h => by rw [gPt_big hk2 hxl e]; exact h)
  ·have hbig := e
   refine wpIn_skip ?_
   refine region_goS 2 ((12, .s ((UF.eq (.int .i64 (((k : Nat) : Int)))).toSF)) :: (13, .u (UF.eq (.int .i64 (((k + 1 : Nat) : Int))))) :: []) s (by kernel_rfl)
    (oc ok_move <| oc (ok_addI .i64 (((k : Nat) : Int)) (1) (((k + 1 : Nat) : Int)) iiz iiz (wrap64 _ _ (by omega) (by omega))) <| obs_nil) fun a w6 s => ?_
   replace s := s.drop [3]
   refine t_set (UF.eq (.int .i64 (((k + 1 : Nat) : Int)))) rfl s (by kernel_rfl) iiz fun a w s => ?_
   refine tail_end rfl ?_
   exact ⟨k + 1, ⟨by omega, by omega, fun j y hj hy => by rcases Nat.lt_or_eq_of_le (Nat.le_of_lt_succ hj) with h | h; exact hx.2.2 j y h hy; rw [h, hxl] at hy; cases hy; exact hbig⟩, (by show 9 - (k + 1) < 9 - k; omega), s.keepK _ (fmz ⟨mz4, fmz ⟨.head _, fnz⟩⟩)⟩
 ·have hend : L.length ≤ k ∨ k = 9 := by
   rw [Bool.and_eq_false_iff] at e
   rcases e with e | e
   ·have h7 := of_decide_eq_false e; simp at h7; omega
   ·have h7 := of_decide_eq_false e; omega
  refine wpIn_exit ?_
  refine wpIn_seq ?_
  refine region_go 4 ((46, .s (SF.row 6 (pxs L))) :: (47, .s ((UF.eq (.int .i64 ((((pxs L).length : Nat) : Int)))).toSF)) :: (48, .s ((UF.eq (.bool (decide ((((pxs L).length : Nat) : Int) > 8)))).toSF)) :: (2, .u (UF.eq (.bool (decide ((((pxs L).length : Nat) : Int) > 8))))) :: []) hmix s (by kernel_rfl)
   (oc ok_move <| oc (ok_lenR (z := 6) (Cs := pxs L) (by kernel_rfl) iiz (fun _ => rfl)) <| oc (ok_cmpI .i64 ((((pxs L).length : Nat) : Int)) (8) (decide ((((pxs L).length : Nat) : Int) > 8)) iiz iiz rfl rfl) <| oc (ok_assign) <| obs_nil) fun a w7 s => ?_
  refine tail_end rfl ?_
  refine wpIn_ret ?_
  exact StS.res1 s (t := 2) rfl (fun v W h => by rw [gPt_end (fun j y hj hy => hx.2.2 j y (by have := (List.getElem?_eq_some_iff.1 hy).1; omega) hy)]; exact h)
end Go.Proofs.Wd

namespace Go.Proofs.Wd
set_option maxRecDepth 100000
set_option maxHeartbeats 1000000
open Go.RowKit Lb
abbrev ints (L : List Int) : List CU := L.map fun z => CU.is [.int .i64 z]
def gI (L : List Int) (i : Nat) : Int := L.getD i 0
theorem ints_get {L : List Int} {i : Nat} (h : i < L.length) : (ints L)[i]? = some (CU.is [.int .i64 (gI L i)]) := by
 unfold ints gI; rw [List.getElem?_map, List.getD_eq_getElem?_getD, List.getElem?_eq_getElem h]; rfl
def triK (L : List Int) (k : Nat) : List V2 := (List.range k).map fun j => (((gI L (2 * j) : Int) : Rat), ((gI L (2 * j + 1) : Int) : Rat))
theorem triK_snoc (L : List Int) (k : Nat) : pns (triK L (k + 1)) = pns (triK L k) ++ [CU.agg (fPN (((gI L (2 * k) : Int) : Rat), ((gI L (2 * k + 1) : Int) : Rat)))] := by
 unfold triK pns
 rw [List.range_succ, List.map_append, List.map_append]
 rfl
theorem triK_len (L : List Int) (k : Nat) : (triK L k).length = k := by simp [triK]
def okIs (L : List Int) : Prop := ∀ i, -9223372036854775808 ≤ gI L i ∧ gI L i ≤ 9223372036854775807
theorem tri_p {W : World} {l : Value} {L : List Int} (hl : (SF.row 1 (ints L)).p l W) (hL : okIs L) (hn : L.length ≤ 1000000) : Calls Tryz.prog 51 #[l] W (Ret W (SF.newRow W 30 6 (pns (triK L (L.length / 2))))) := by
 refine run_st [(UF.eq l).toSF] Tryz.func51 rfl (by kernel_rfl) ⟨rfl, trivial⟩ fun a s => ?_
 replace s := s.renew [(0, .u (UF.eq l))] (fmz ⟨.inr ⟨_, rfl, .head _⟩, fnz⟩)
 refine wpIn_seq ?_
 refine region_go 1 ((2, .u (UF.eq (.slice none 0 0))) :: []) hmix s (by kernel_rfl)
  (oc (ok_assign) <| obs_nil) fun a w1 s => ?_
 refine tail_end rfl ?_
 refine wpIn_seq ?_
 refine region_go 1 ((3, .u (UF.eq (.slice none 0 0))) :: []) hmix s (by kernel_rfl)
  (oc (ok_assign) <| obs_nil) fun a w2 s => ?_
 refine tail_end rfl ?_
 refine wpIn_seq ?_
 refine wpIn_seq ?_
 refine region_go 1 ((4, .u (UF.eq (.int .i64 (0)))) :: []) hmix s (by kernel_rfl)
  (oc (ok_assign) <| obs_nil) fun a w3 s => ?_
 refine tail_end rfl ?_
 refine wpIn_block ?_
 refine st_rows (fun (p : Nat × Value) w => 2 * p.1 ≤ L.length ∧ W.heap.size ≤ w.heap.size ∧ RowN w W.heap.size 30 6 p.2 (pns (triK L p.1))) (fun p => [(0, .u (UF.eq l)), (3, .u (UF.eq (p.2))), (4, .u (UF.eq (.int .i64 (((2 * p.1 : Nat) : Int)))))]) (fun p => L.length - 2 * p.1) ((0, .slice none 0 0)) (⟨Nat.zero_le _, s.gr.size, RowN.nil _ _ _ _⟩) (s.keepK _ (fmz ⟨mz3, fmz ⟨mz1, fmz ⟨.head _, fnz⟩⟩⟩)) fun p a w hI s => ?_
 have s0 := s
 have hlw := (SF.row 1 (ints L)).st _ _ _ hl s0.below
 replace s := s.reb rfl [(0, .u (UF.eq l)), (3, .u (UF.eq (p.2))), (4, .u (UF.eq (.int .i64 (((2 * p.1 : Nat) : Int)))))] (fmz ⟨.inl (.head _), fmz ⟨.inl mz1, fmz ⟨.inl mz2, fnz⟩⟩⟩)
 refine wpIn_seq ?_
 refine wpIn_seq ?_
 refine region_go 5 ((5, .s ((UF.eq (.int .i64 (((2 * p.1 : Nat) : Int)))).toSF)) :: (6, .s ((UF.eq (.int .i64 (((2 * p.1 + 1 : Nat) : Int)))).toSF)) :: (7, .s ((UF.eq l).toSF)) :: (8, .s ((UF.eq (.int .i64 ((((ints (L)).length : Nat) : Int)))).toSF)) :: (9, .u (UF.eq (.bool (decide (((2 * p.1 + 1 : Nat) : Int) < (((ints (L)).length : Nat) : Int)))))) :: []) hmix s (by kernel_rfl)
  (oc ok_move <| oc (ok_addI .i64 (((2 * p.1 : Nat) : Int)) (1) (((2 * p.1 + 1 : Nat) : Int)) iiz iiz (wrap64 _ _ (by omega) (by omega))) <| oc ok_move <| oc (ok_lenB (z := 1) (Cs := ints (L)) (by kernel_rfl) (fun v W hb h => (by rw [show _ = l from h]; exact (SF.row 1 (ints (L))).st _ _ _ hlw (s.up hb))) (fun _ => rfl)) <| oc (ok_cmpI .i64 (((2 * p.1 + 1 : Nat) : Int)) ((((ints (L)).length : Nat) : Int)) (decide (((2 * p.1 + 1 : Nat) : Int) < (((ints (L)).length : Nat) : Int))) iiz iiz rfl rfl) <| obs_nil) fun a w4 s => ?_
 refine tail_end rfl ?_
 refine StS.cond s (decide (((2 * p.1 + 1 : Nat) : Int) < (((ints (L)).length : Nat) : Int))) iiz (fun e => ?_) (fun e => ?_)
 ·have hk : 2 * p.1 + 1 < L.length := by have := of_decide_eq_true e; simp at this; omega
  refine wpIn_skip ?_
  refine wpIn_seq ?_
  refine wpIn_block ?_
  refine region_goPSN (K := [(9, .u (UF.eq (.bool (decide (((2 * p.1 + 1 : Nat) : Int) < (((ints (L)).length : Nat) : Int)))))), (0, .u (UF.eq l)), (4, .u (UF.eq (.int .i64 (((2 * p.1 : Nat) : Int)))))]) [(3, .u (UF.eq (p.2)))] [0, 1, 2, 5, 6] 12 ((12, .u (UF.eq (p.2))) :: (13, .s ((UF.eq l).toSF)) :: (14, .s ((UF.eq (.int .i64 (((2 * p.1 : Nat) : Int)))).toSF)) :: (15, .s (SF.ptr (CU.is [.int .i64 (gI L (2 * p.1))]).cf)) :: (16, .s ((UF.eq (.int .i64 (gI L (2 * p.1)))).toSF)) :: (17, .s ((UF.eq l).toSF)) :: (18, .s ((UF.eq (.int .i64 (((2 * p.1 : Nat) : Int)))).toSF)) :: (19, .s ((UF.eq (.int .i64 (((2 * p.1 + 1 : Nat) : Int)))).toSF)) :: (20, .s (SF.ptr (CU.is [.int .i64 (gI L (2 * p.1 + 1))]).cf)) :: (21, .s ((UF.eq (.int .i64 (gI L (2 * p.1 + 1)))).toSF)) :: (22, .s ((fPN ((((gI L (2 * p.1) : Int) : Rat), ((gI L (2 * p.1 + 1) : Int) : Rat)))).toSF)) :: (23, .s (SF.row 6 [CU.agg (fPN ((((gI L (2 * p.1) : Int) : Rat), ((gI L (2 * p.1 + 1) : Int) : Rat))))])) :: []) hmix (s.keepK _ (fmz ⟨mz2, fmz ⟨.head _, fmz ⟨mz1, fmz ⟨mz3, fnz⟩⟩⟩⟩)) (by kernel_rfl)
   (oc ok_move <| oc ok_move <| oc ok_move <| oc (ok_indexB (z := 1) (Cs := ints (L)) (i := (2 * p.1)) (C := CU.is [.int .i64 (gI L (2 * p.1))]) (by kernel_rfl) (ints_get (by omega)) (fun v W hb h => (by rw [show _ = l from h]; exact (SF.row 1 (ints (L))).st _ _ _ hlw (s.up hb))) iiz) <| oc (ok_load1 (C := (CU.is [.int .i64 (gI L (2 * p.1))]).cf) (by kernel_rfl) iiz (is_get)) <| oc ok_move <| oc ok_move <| oc (ok_addI .i64 (((2 * p.1 : Nat) : Int)) (1) (((2 * p.1 + 1 : Nat) : Int)) iiz iiz (wrap64 _ _ (by omega) (by omega))) <| oc (ok_indexB (z := 1) (Cs := ints (L)) (i := (2 * p.1 + 1)) (C := CU.is [.int .i64 (gI L (2 * p.1 + 1))]) (by kernel_rfl) (ints_get (by omega)) (fun v W hb h => (by rw [show _ = l from h]; exact (SF.row 1 (ints (L))).st _ _ _ hlw (s.up hb))) iiz) <| oc (ok_load1 (C := (CU.is [.int .i64 (gI L (2 * p.1 + 1))]).cf) (by kernel_rfl) iiz (is_get)) <| oc (ok_call2 wide_wide en_17 (fun u0 u1 W hb (h0 : u0 = .int .i64 (gI L (2 * p.1))) (h1 : u1 = .int .i64 (gI L (2 * p.1 + 1))) => r8of_p h0 h1 (hL _) (hL _))) <| oc (ok_slice1 (fun u W (hu : (fPN ((((gI L (2 * p.1) : Int) : Rat), ((gI L (2 * p.1 + 1) : Int) : Rat)))).p u W) => sl_pt1 hu)) <| obs_nil) fun Q' hQ a w5 s hr => ?_
  refine t_app ([CU.agg (fPN ((((gI L (2 * p.1) : Int) : Rat), ((gI L (2 * p.1 + 1) : Int) : Rat))))]) s0 (s.keepK [(12, .u (UF.eq (p.2))), (9, .u (UF.eq (.bool (decide (((2 * p.1 + 1 : Nat) : Int) < (((ints (L)).length : Nat) : Int)))))), (0, .u (UF.eq l)), (4, .u (UF.eq (.int .i64 (((2 * p.1 : Nat) : Int)))))] (fmz ⟨.head _, fmz ⟨mz1, fmz ⟨mz2, fmz ⟨mz3, fnz⟩⟩⟩⟩)) (Nat.le_refl _) hI.2 rfl (by kernel_rfl) (by kernel_rfl) (by kernel_rfl) (s.fct (.tmp 12)) (hr (_, _) mz11) (one_ok _ _) (by simp [triK_len]; omega) (fun q hq => by cases hq) fun v' a w hI' s => ?_
  have s1 := s
  replace s := s.reb rfl [(24, .u (UF.eq (v'))), (12, .u (UF.eq (p.2))), (9, .u (UF.eq (.bool (decide (((2 * p.1 + 1 : Nat) : Int) < (((ints (L)).length : Nat) : Int)))))), (0, .u (UF.eq l)), (4, .u (UF.eq (.int .i64 (((2 * p.1 : Nat) : Int)))))] (fmz ⟨.inl (.head _), fmz ⟨.inl mz1, fmz ⟨.inl mz2, fmz ⟨.inl mz3, fmz ⟨.inl mz4, fnz⟩⟩⟩⟩⟩)
  refine t_set (UF.eq (v')) rfl s (by kernel_rfl) iiz fun a w s => ?_
  refine tail_end rfl (hQ _ _ ?_)
  refine region_goS 2 ((10, .s ((UF.eq (.int .i64 (((2 * p.1 : Nat) : Int)))).toSF)) :: (11, .u (UF.eq (.int .i64 (((2 * (p.1 + 1) : Nat) : Int))))) :: []) s (by kernel_rfl)
   (oc ok_move <| oc (ok_addI .i64 (((2 * p.1 : Nat) : Int)) (2) (((2 * (p.1 + 1) : Nat) : Int)) iiz iiz (wrap64 _ _ (by omega) (by omega))) <| obs_nil) fun a w6 s => ?_
  replace s := s.drop [4]
  refine t_set (UF.eq (.int .i64 (((2 * (p.1 + 1) : Nat) : Int)))) rfl s (by kernel_rfl) iiz fun a w s => ?_
  refine tail_end rfl ?_
  have hbw := s.below
  replace s := s1.back (s.keepK [(4, .u (UF.eq (.int .i64 (((2 * (p.1 + 1) : Nat) : Int))))), (11, .u (UF.eq (.int .i64 (((2 * (p.1 + 1) : Nat) : Int))))), (3, .u (UF.eq (v'))), (24, .u (UF.eq (v'))), (12, .u (UF.eq (p.2))), (9, .u (UF.eq (.bool (decide (((2 * p.1 + 1 : Nat) : Int) < (((ints (L)).length : Nat) : Int)))))), (0, .u (UF.eq l))] (fmz ⟨.head _, fmz ⟨mz1, fmz ⟨mz2, fmz ⟨mz3, fmz ⟨mz4, fmz ⟨mz5, fmz ⟨mz6, fnz⟩⟩⟩⟩⟩⟩⟩)) rfl
  exact ⟨(p.1 + 1, v'), (by show L.length - 2 * (p.1 + 1) < L.length - 2 * p.1; omega), ⟨by show 2 * (p.1 + 1) ≤ _; omega, Nat.le_trans hI'.1 hbw.size, by show RowN _ _ _ _ _ (pns (triK L (p.1 + 1))); rw [triK_snoc]; exact hI'.2.below hbw⟩, s.keepK _ (fmz ⟨mz6, fmz ⟨mz2, fmz ⟨.head _, fnz⟩⟩⟩)⟩
 ·have hk : p.1 = L.length / 2 := by have h7 := of_decide_eq_false e; have h8 := hI.1; simp at h7; omega
  refine wpIn_exit ?_
  refine wpIn_seq ?_
  refine region_go 2 ((25, .s ((UF.eq (p.2)).toSF)) :: (2, .u (UF.eq (p.2))) :: []) hmix s (by kernel_rfl)
   (oc ok_move <| oc (ok_assign) <| obs_nil) fun a w7 s => ?_
  refine tail_end rfl ?_
  refine wpIn_ret ?_
  exact StS.resN s s0.below rfl (by rw [s.val (.head _)]; have := hI.2.2.below s.below; rw [hk] at this; exact this)
theorem sInt6 (a b c d e f : Int) : sliceCells Tryz.prog 54 6 [(0, .int .i64 a), (1, .int .i64 b), (2, .int .i64 c), (3, .int .i64 d), (4, .int .i64 e), (5, .int .i64 f)] = some (3, #[.int .i64 a, .int .i64 b, .int .i64 c, .int .i64 d, .int .i64 e, .int .i64 f]) := by kernel_rfl
theorem row_ints {L : List Int} {n : Nat} {cs : Array Value} {e : TypeId} {W : World} (hn : L.length = n) (hc : cs.toList = L.map (.int .i64)) : n ≤ 1000 → (SF.row 1 (ints L)).p (.slice (some ⟨W.heap.size, 0, none⟩) n n) (W.alloc (.cells cs e)) := by
 intro h
 refine ⟨some ⟨W.heap.size, 0, none⟩, n, by simp [hn], by simp [hn], by omega, fun e => (by cases e), fun i C hi => ?_⟩
 have hlt : i < L.length := by have := (List.getElem?_eq_some_iff.1 hi).1; simpa using this
 rw [ints_get hlt] at hi
 cases hi
 refine ⟨W.heap.size, 0, [.int .i64 (gI L i)], rfl, fun j u hj => ?_, rfl⟩
 obtain rfl : j = 0 := by have := (List.getElem?_eq_some_iff.1 hj).1; simp at this; omega
 obtain rfl : Value.int .i64 (gI L i) = u := by simpa using hj
 have hm := mem_new W cs e
 have h8 : cs.toList[i]? = some (Value.int .i64 (gI L i)) := by
  rw [hc, List.getElem?_map]
  unfold gI
  rw [List.getD_eq_getElem?_getD, List.getElem?_eq_getElem hlt]; rfl
 have := hm i _ h8
 simpa using this
end Go.Proofs.Wd

namespace Go.Proofs.Wd
set_option maxRecDepth 100000
set_option maxHeartbeats 1000000
open Go.RowKit Lb
section
variable {F : Fence} {m : Nat} {P : Program} {w0 : World} {ops : Array Oper} {G : Nat → SF} {d : Tmp} {ty : TypeId} {pos : String} {aft : Array Edge}
theorem ok_build3 {t : TypeId} {i j k : Nat} {x y z : Operand} (h : ∀ u v q W, (fct G x).p u W → (fct G y).p v W → (fct G z).p q W → ∃ cells, P.built t [(i, u), (j, v), (k, q)] = some cells ∧ (G d).p (.agg cells) W) : GdOK F m P w0 ops G ⟨some d, .build t #[(i, x), (j, y), (k, z)], ty, pos, aft, none⟩ :=
 ok_build fun b W hb hh => by
  obtain ⟨cells, h1, h2⟩ := h _ _ _ W (hh x (by simp)) (hh y (by simp)) (hh z (by simp))
  exact ⟨cells, by simpa using h1, h2⟩
end
theorem ok_slice6 {F : Fence} {m : Nat} {w0 : World} {ops : Array Oper} {G : Nat → SF} {d : Tmp} {ty : TypeId} {pos : String} {aft : Array Edge} (a b c e f g : Int) (hd : ∀ v W, (SF.row 1 (ints [a, b, c, e, f, g])).p v W → (G d).p v W) : GdOK F m Tryz.prog w0 ops G ⟨some d, .buildSlice 54 6 #[(0, .const (.int .i64 a)), (1, .const (.int .i64 b)), (2, .const (.int .i64 c)), (3, .const (.int .i64 e)), (4, .const (.int .i64 f)), (5, .const (.int .i64 g))], ty, pos, aft, none⟩ :=
 ok_slice fun bb W hb hh => by
  have h1 := sInt6 a b c e f g
  have ev : ∀ v : Value, bb.eval (.const v) = v := fun _ => rfl
  refine ⟨3, #[.int .i64 a, .int .i64 b, .int .i64 c, .int .i64 e, .int .i64 f, .int .i64 g], by simpa [ev] using h1, hd _ _ (row_ints (L := [a, b, c, e, f, g]) rfl rfl (by omega))⟩
theorem trB (s : Bool) (A A' : Option Addr) (n n' c c' : Nat) (s2 : Bool) (B B' : Option Addr) (k k' d d' : Nat) (t : Bool) (C C' : Option Addr) (i i' j j' : Nat) (t2 : Bool) (D D' : Option Addr) (x x' y y' : Nat) (r : Bool) (E E' : Option Addr) (p p' q q' : Nat) (r2 : Bool) (F F' : Option Addr) (g g' h h' : Nat) : Tryz.prog.built 51 [(0, .agg #[.bool s, .slice A n c, .slice A' n' c', .bool s2, .slice B k d, .slice B' k' d']), (1, .agg #[.bool t, .slice C i j, .slice C' i' j', .bool t2, .slice D x y, .slice D' x' y']), (2, .agg #[.bool r, .slice E p q, .slice E' p' q', .bool r2, .slice F g h, .slice F' g' h'])] = some #[.bool s, .slice A n c, .slice A' n' c', .bool s2, .slice B k d, .slice B' k' d', .bool t, .slice C i j, .slice C' i' j', .bool t2, .slice D x y, .slice D' x' y', .bool r, .slice E p q, .slice E' p' q', .bool r2, .slice F g h, .slice F' g' h'] := by kernel_rfl
theorem b_tr {m : Nat} {t : V6} {u v q : Value} {W : World} (hu : (fPV m t.1).p u W) (hv : (fPV m t.2.1).p v W) (hq : (fPV m t.2.2).p q W) : ∃ cells, Tryz.prog.built 51 [(0, u), (1, v), (2, q)] = some cells ∧ (fTR m t).p (.agg cells) W := by
 obtain ⟨s, A, n, c, A', n', c', s2, B, k, d, B', k', d', rfl, h1, h2⟩ := hu
 obtain ⟨s3, A3, n3, c3, A4, n4, c4, s4, B3, k3, d3, B4, k4, d4, rfl, h3, h4⟩ := hv
 obtain ⟨s5, A5, n5, c5, A6, n6, c6, s6, B5, k5, d5, B6, k6, d6, rfl, h5, h6⟩ := hq
 exact ⟨_, trB .., _, _, _, rfl, ⟨s, A, n, c, A', n', c', s2, B, k, d, B', k', d', rfl, h1, h2⟩, ⟨s3, A3, n3, c3, A4, n4, c4, s4, B3, k3, d3, B4, k4, d4, rfl, h3, h4⟩, ⟨s5, A5, n5, c5, A6, n6, c6, s6, B5, k5, d5, B6, k6, d6, rfl, h5, h6⟩⟩
theorem sTr1 (u0 u1 u2 u3 u4 u5 u6 u7 u8 u9 u10 u11 u12 u13 u14 u15 u16 u17 : Value) : sliceCells Tryz.prog 49 1 [(0, .agg #[u0, u1, u2, u3, u4, u5, u6, u7, u8, u9, u10, u11, u12, u13, u14, u15, u16, u17])] = some (51, #[u0, u1, u2, u3, u4, u5, u6, u7, u8, u9, u10, u11, u12, u13, u14, u15, u16, u17]) := by kernel_rfl
theorem sTr2 (u0 u1 u2 u3 u4 u5 u6 u7 u8 u9 u10 u11 u12 u13 u14 u15 u16 u17 v0 v1 v2 v3 v4 v5 v6 v7 v8 v9 v10 v11 v12 v13 v14 v15 v16 v17 : Value) : sliceCells Tryz.prog 49 2 [(0, .agg #[u0, u1, u2, u3, u4, u5, u6, u7, u8, u9, u10, u11, u12, u13, u14, u15, u16, u17]), (1, .agg #[v0, v1, v2, v3, v4, v5, v6, v7, v8, v9, v10, v11, v12, v13, v14, v15, v16, v17])] = some (51, #[u0, u1, u2, u3, u4, u5, u6, u7, u8, u9, u10, u11, u12, u13, u14, u15, u16, u17, v0, v1, v2, v3, v4, v5, v6, v7, v8, v9, v10, v11, v12, v13, v14, v15, v16, v17]) := by kernel_rfl
theorem list18 {cs : List Value} (h : cs.length = 18) : ∃ u0 u1 u2 u3 u4 u5 u6 u7 u8 u9 u10 u11 u12 u13 u14 u15 u16 u17, cs = [u0, u1, u2, u3, u4, u5, u6, u7, u8, u9, u10, u11, u12, u13, u14, u15, u16, u17] := by
 match cs, h with
 | [u0, u1, u2, u3, u4, u5, u6, u7, u8, u9, u10, u11, u12, u13, u14, u15, u16, u17], _ => exact ⟨u0, u1, u2, u3, u4, u5, u6, u7, u8, u9, u10, u11, u12, u13, u14, u15, u16, u17, rfl⟩
theorem tr_list {m : Nat} {t : V6} {v : Value} {W : World} (h : (fTR m t).p v W) : ∃ cs : List Value, v = .agg cs.toArray ∧ cs.length = 18 ∧ (CU.agg (fTR m t)).p cs W := by
 obtain ⟨a, b, c, rfl, h1⟩ := id h
 exact ⟨_, rfl, (tr_ok m t _ W h).1, h⟩
theorem sl_tr1 {m : Nat} {t : V6} {u : Value} {W : World} (h : (fTR m t).p u W) : ∃ e cs, sliceCells Tryz.prog 49 1 [(0, u)] = some (e, cs) ∧ (SF.row 18 (trs m [t])).p (.slice (some ⟨W.heap.size, 0, none⟩) 1 1) (W.alloc (.cells cs e)) := by
 obtain ⟨cs, rfl, l, hc⟩ := tr_list h
 obtain ⟨u0, u1, u2, u3, u4, u5, u6, u7, u8, u9, u10, u11, u12, u13, u14, u15, u16, u17, rfl⟩ := list18 l
 refine ⟨_, _, sTr1 .., some ⟨W.heap.size, 0, none⟩, 1, rfl, Nat.le_refl _, by decide, fun e => (by cases e), fun i C hi => ?_⟩
 have hb := alloc_b W (.cells #[u0, u1, u2, u3, u4, u5, u6, u7, u8, u9, u10, u11, u12, u13, u14, u15, u16, u17] 51)
 have hm := mem_new W #[u0, u1, u2, u3, u4, u5, u6, u7, u8, u9, u10, u11, u12, u13, u14, u15, u16, u17] 51
 obtain rfl : i = 0 := by have := (List.getElem?_eq_some_iff.1 hi).1; simp at this; omega
 obtain rfl : CU.agg (fTR m t) = C := by simpa using hi
 refine ⟨W.heap.size, 0, _, rfl, ?_, (CU.agg (fTR m t)).us _ _ _ hc (keepU_below hb)⟩
 rw [show 0 + 0 * 18 = 0 from rfl]
 exact hm
theorem sl_tr2 {m : Nat} {t t' : V6} {u v : Value} {W : World} (h : (fTR m t).p u W) (h' : (fTR m t').p v W) : ∃ e cs, sliceCells Tryz.prog 49 2 [(0, u), (1, v)] = some (e, cs) ∧ (SF.row 18 (trs m [t, t'])).p (.slice (some ⟨W.heap.size, 0, none⟩) 2 2) (W.alloc (.cells cs e)) := by
 obtain ⟨cs, rfl, l, hc⟩ := tr_list h
 obtain ⟨u0, u1, u2, u3, u4, u5, u6, u7, u8, u9, u10, u11, u12, u13, u14, u15, u16, u17, rfl⟩ := list18 l
 obtain ⟨cs, rfl, l, hc'⟩ := tr_list h'
 obtain ⟨v0, v1, v2, v3, v4, v5, v6, v7, v8, v9, v10, v11, v12, v13, v14, v15, v16, v17, rfl⟩ := list18 l
 refine ⟨_, _, sTr2 .., some ⟨W.heap.size, 0, none⟩, 2, rfl, Nat.le_refl _, by decide, fun e => (by cases e), fun i C hi => ?_⟩
 have hb := alloc_b W (.cells #[u0, u1, u2, u3, u4, u5, u6, u7, u8, u9, u10, u11, u12, u13, u14, u15, u16, u17, v0, v1, v2, v3, v4, v5, v6, v7, v8, v9, v10, v11, v12, v13, v14, v15, v16, v17] 51)
 have hm := mem_new W #[u0, u1, u2, u3, u4, u5, u6, u7, u8, u9, u10, u11, u12, u13, u14, u15, u16, u17, v0, v1, v2, v3, v4, v5, v6, v7, v8, v9, v10, v11, v12, v13, v14, v15, v16, v17] 51
 have hlt := (List.getElem?_eq_some_iff.1 hi).1
 simp at hlt
 rcases (by omega : i = 0 ∨ i = 1) with rfl | rfl
 ·obtain rfl : CU.agg (fTR m t) = C := by simpa using hi
  refine ⟨W.heap.size, 0, [u0, u1, u2, u3, u4, u5, u6, u7, u8, u9, u10, u11, u12, u13, u14, u15, u16, u17], rfl, ?_, (CU.agg (fTR m t)).us _ _ _ hc (keepU_below hb)⟩
  intro j u hj
  have hj' := (List.getElem?_eq_some_iff.1 hj).1
  have := hm j u (by rw [show #[u0, u1, u2, u3, u4, u5, u6, u7, u8, u9, u10, u11, u12, u13, u14, u15, u16, u17, v0, v1, v2, v3, v4, v5, v6, v7, v8, v9, v10, v11, v12, v13, v14, v15, v16, v17].toList = [u0, u1, u2, u3, u4, u5, u6, u7, u8, u9, u10, u11, u12, u13, u14, u15, u16, u17] ++ [v0, v1, v2, v3, v4, v5, v6, v7, v8, v9, v10, v11, v12, v13, v14, v15, v16, v17] from rfl, List.getElem?_append_left hj']; exact hj)
  simpa using this
 ·obtain rfl : CU.agg (fTR m t') = C := by simpa using hi
  refine ⟨W.heap.size, 0, [v0, v1, v2, v3, v4, v5, v6, v7, v8, v9, v10, v11, v12, v13, v14, v15, v16, v17], rfl, ?_, (CU.agg (fTR m t')).us _ _ _ hc' (keepU_below hb)⟩
  intro j u hj
  have hj' := (List.getElem?_eq_some_iff.1 hj).1
  have := hm (18 + j) u (by rw [show #[u0, u1, u2, u3, u4, u5, u6, u7, u8, u9, u10, u11, u12, u13, u14, u15, u16, u17, v0, v1, v2, v3, v4, v5, v6, v7, v8, v9, v10, v11, v12, v13, v14, v15, v16, v17].toList = [u0, u1, u2, u3, u4, u5, u6, u7, u8, u9, u10, u11, u12, u13, u14, u15, u16, u17] ++ [v0, v1, v2, v3, v4, v5, v6, v7, v8, v9, v10, v11, v12, v13, v14, v15, v16, v17] from rfl, List.getElem?_append_right (by simp)]; simpa using hj)
  simpa using this
def okS (L : List Int) : Prop := ∀ i, (gI L i).natAbs < 100
theorem okS.ok {L : List Int} (h : okS L) : okIs L := fun i => by have := h i; omega
theorem gI_okS {L : List Int} (h : L.all (fun z => decide (z.natAbs < 100)) = true) : okS L := fun i => by
 unfold gI
 rw [List.getD_eq_getElem?_getD]
 cases e : L[i]? with
 | none => decide
 | some z =>
  have := List.all_eq_true.1 h z (List.mem_of_getElem? e)
  exact of_decide_eq_true this
theorem qbz {z : Int} (h : z.natAbs < 100) : QB ((z : Int) : Rat) 1 := QB.int (Nat.lt_trans h (by decide)) (by decide)
theorem triK_qb {L : List Int} (h : okS L) (k : Nat) : ∀ p, p ∈ triK L k → QB p.1 1 ∧ QB p.2 1 := fun p hp => by
 obtain ⟨j, _, rfl⟩ := List.mem_map.1 hp
 exact ⟨qbz (h _), qbz (h _)⟩
abbrev LA : List Int := [0, 0, 2, 0, 0, 2]
abbrev LB : List Int := [1, 1, 2, 1, 2, 2]
abbrev LC : List Int := [1, 0, 2, 1, 1, 1]
abbrev TA : V6 := ((((1 : Int) : Rat), ((0 : Int) : Rat)), (((2 : Int) : Rat), ((1 : Int) : Rat)), (((1 : Int) : Rat), ((1 : Int) : Rat)))
theorem wk1 : polysB (triK LA 3) (triK LB 3) = true := by kernel_rfl
theorem wk2 : polysB (triK LA 3) (triK LC 3) = false := by kernel_rfl
theorem wk3 : whichK (shiftV (triK LA 3) (((0 : Int) : Rat), ((0 : Int) : Rat))) [TA, TA] 2 = [0, 1] := by kernel_rfl
theorem wk4 : (!([TA].any (fun t => !(polysB (shiftV (triK LA 3) (((-5 : Int) : Rat), ((0 : Int) : Rat))) (tl t))))) = true := by kernel_rfl
theorem wakes18 {W : World} (hT : Tab W) : Calls Tryz.prog 12 #[] W (Ret W (fB true).toSF) := by
 refine run_st [] Tryz.func12 rfl (by kernel_rfl) trivial fun a s => ?_
 refine wpIn_seq ?_
 refine region_go 1 ((0, .u (UF.eq (.bool false))) :: []) hmix s (by kernel_rfl)
  (oc (ok_assign) <| obs_nil) fun a w1 s => ?_
 refine tail_end rfl ?_
 refine wpIn_seq ?_
 refine region_goN 2 ((4, .s (SF.row 1 (ints [0, 0, 2, 0, 0, 2]))) :: (5, .s (SF.newRow w1 30 6 (pns (triK [0, 0, 2, 0, 0, 2] 3)))) :: []) hmix s (by kernel_rfl)
  (oc (ok_slice6 _ _ _ _ _ _ iiz) <| oc (ok_call1 wide_wide en_51 (fun u0 W hb (h0 : (SF.row 1 (ints [0, 0, 2, 0, 0, 2])).p u0 W) => (tri_p (L := [0, 0, 2, 0, 0, 2]) h0 (gI_okS (by decide)).ok (by decide)).mono (Ret.to (newRow_old hb.size)))) <| obs_nil) fun a w2 s hr => ?_
 obtain ⟨v5, e5⟩ : ∃ v, a.tmps.getD 5 undef = v := ⟨_, rfl⟩
 have hv5 : (SF.row 6 (pvs 1 (triK LA 3))).p v5 w2 := e5 ▸ pns_pvs (triK_qb (gI_okS (by decide)) 3) _ _ (newRow_row _ _ (hr (_, _) mz1))
 replace s := s.learn 5 v5 e5
 have hb0 := s.below
 replace hT := hT.below hb0
 replace s := s.reb rfl [(5, .u (UF.eq (v5))), (0, .u (UF.eq (.bool false)))] (fmz ⟨.inl (.head _), fmz ⟨.inl mz1, fnz⟩⟩)
 refine t_set (UF.eq v5) rfl s (by kernel_rfl) iiz fun a w s => ?_
 refine tail_end rfl ?_
 refine wpIn_seq ?_
 refine region_go 4 ((6, .s ((fPN (((((1) : Int) : Rat), (((0) : Int) : Rat)))).toSF)) :: (7, .s ((fPN (((((2) : Int) : Rat), (((1) : Int) : Rat)))).toSF)) :: (8, .s ((fPN (((((1) : Int) : Rat), (((1) : Int) : Rat)))).toSF)) :: (9, .u (fTR (1) (TA))) :: []) hmix s (by kernel_rfl)
  (oc (ok_call2 wide_wide en_17 (fun u0 u1 W hb (h0 : u0 = .int .i64 (1)) (h1 : u1 = .int .i64 (0)) => r8of_p h0 h1 (by decide) (by decide))) <| oc (ok_call2 wide_wide en_17 (fun u0 u1 W hb (h0 : u0 = .int .i64 (2)) (h1 : u1 = .int .i64 (1)) => r8of_p h0 h1 (by decide) (by decide))) <| oc (ok_call2 wide_wide en_17 (fun u0 u1 W hb (h0 : u0 = .int .i64 (1)) (h1 : u1 = .int .i64 (1)) => r8of_p h0 h1 (by decide) (by decide))) <| oc (ok_build3 (fun u v q W (hu : (fPN (((((1) : Int) : Rat), (((0) : Int) : Rat)))).p u W) (hv : (fPN (((((2) : Int) : Rat), (((1) : Int) : Rat)))).p v W) (hq : (fPN (((((1) : Int) : Rat), (((1) : Int) : Rat)))).p q W) => b_tr (t := TA) (pn_pv (p := ((((1) : Int) : Rat), (((0) : Int) : Rat))) (m := 1) (qbz (by decide)) (qbz (by decide)) hu) (pn_pv (p := ((((2) : Int) : Rat), (((1) : Int) : Rat))) (m := 1) (qbz (by decide)) (qbz (by decide)) hv) (pn_pv (p := ((((1) : Int) : Rat), (((1) : Int) : Rat))) (m := 1) (qbz (by decide)) (qbz (by decide)) hq))) <| obs_nil) fun a w3 s => ?_
 refine t_alloc (CU.len 18) (cs := [.bool false, .slice none 0 0, .slice none 0 0, .bool false, .slice none 0 0, .slice none 0 0, .bool false, .slice none 0 0, .slice none 0 0, .bool false, .slice none 0 0, .slice none 0 0, .bool false, .slice none 0 0, .slice none 0 0, .bool false, .slice none 0 0, .slice none 0 0]) (by kernel_rfl) rfl s (by kernel_rfl) (fun W => rfl) rfl fun b2 a w s => ?_
 refine t_store (CU.agg (fTR (1) (TA))) ((fTR (1) (TA)).toSF) rfl s (by kernel_rfl) rfl rfl rfl iiz iiz (tr_store) fun a w s => ?_
 refine tail_end rfl ?_
 refine wpIn_seq ?_
 refine region_goA2 (fun i => [].contains i) [] 6 ((10, .s ((UF.eq v5).toSF)) :: (11, .s ((fTR (1) (TA)).toSF)) :: (12, .s ((fTR (1) (TA)).toSF)) :: (13, .s (SF.row 18 (trs 1 [TA, TA]))) :: (14, .s ((fPN (((((0) : Int) : Rat), (((0) : Int) : Rat)))).toSF)) :: (15, .s (SF.newRow w 3 1 (nums [0, 1]))) :: []) hmix s (fnz) (by kernel_rfl)
  (oc ok_move <| oc (ok_ldW (f := fTR (1) (TA)) 18 (by kernel_rfl) (hz := tr_len _ _)) <| oc (ok_ldW (f := fTR (1) (TA)) 18 (by kernel_rfl) (hz := tr_len _ _)) <| oc (ok_slice2 (fun u v W (hu : (fTR 1 TA).p u W) (hv : (fTR 1 TA).p v W) => sl_tr2 hu hv)) <| oc (ok_call2 wide_wide en_17 (fun u0 u1 W hb (h0 : u0 = .int .i64 (0)) (h1 : u1 = .int .i64 (0)) => r8of_p h0 h1 (by decide) (by decide))) <| oc (ok_call3 wide_wide en_28 (fun u0 u1 u2 W hb (h0 : u0 = v5) (h1 : (SF.row 18 (trs 1 [TA, TA])).p u1 W) (h2 : (fPN (((((0) : Int) : Rat), (((0) : Int) : Rat)))).p u2 W) => (awhich_p (m := 1) (rs := triK LA 3) (ts := [TA, TA]) (p := ((((0) : Int) : Rat), (((0) : Int) : Rat))) (by rw [show _ = v5 from h0]; exact (SF.row 6 (pvs (1) (triK LA 3))).st _ _ _ hv5 (s.up hb)) h1 (pn_pv (p := ((((0) : Int) : Rat), (((0) : Int) : Rat))) (m := 1) (qbz (by decide)) (qbz (by decide)) h2) (by decide) (by decide) (by decide) (by decide) (hT.below (s.up hb))).mono (Ret.to (fun v W h => newRow_old hb.size v W (by rw [show [TA, TA].length = 2 from rfl, wk3] at h; exact h))))) <| obs_nil) fun Q' hQ a w4 s hr hd => ?_
 obtain ⟨v15, e15⟩ : ∃ v, a.tmps.getD 15 undef = v := ⟨_, rfl⟩
 have hv15 : (SF.row 1 (nums [0, 1])).p v15 w4 := e15 ▸ newRow_row _ _ (hr (_, _) mz5)
 replace s := s.learn 15 v15 e15
 have hb1 := s.below
 replace hT := hT.below hb1
 replace hv5 := (SF.row 6 _).st _ _ _ hv5 hb1
 replace s : StS _ _ _ [⟨2, 51, CU.agg (fTR (1) (TA)), b2, true⟩] _ _ _ _ := s.freeze
 replace s := s.reb rfl [(15, .u (UF.eq (v15))), (9, .u (fTR (1) (TA))), (1, .u (UF.eq v5)), (5, .u (UF.eq (v5))), (0, .u (UF.eq (.bool false)))] (fmz ⟨.inl (.head _), fmz ⟨.inl mz1, fmz ⟨.inl mz2, fmz ⟨.inl mz3, fmz ⟨.inl mz4, fnz⟩⟩⟩⟩⟩)
 refine t_set (UF.eq v15) rfl s (by kernel_rfl) iiz fun a w s => ?_
 refine tail_end rfl (hQ _ _ ?_)
 refine wpIn_seq ?_
 replace s := s.drop [0]
 refine region_go 43 ((16, .s ((UF.eq v5).toSF)) :: (17, .s (SF.row 1 (ints [1, 1, 2, 1, 2, 2]))) :: (18, .s (SF.row 6 (pns (triK [1, 1, 2, 1, 2, 2] 3)))) :: (19, .s ((UF.eq (.bool true)).toSF)) :: (20, .s ((UF.eq (.bool true)).toSF)) :: (21, .s ((UF.eq v5).toSF)) :: (22, .s (SF.row 1 (ints [1, 0, 2, 1, 1, 1]))) :: (23, .s (SF.row 6 (pns (triK [1, 0, 2, 1, 1, 1] 3)))) :: (24, .s ((UF.eq (.bool false)).toSF)) :: (25, .s ((UF.eq (.bool true)).toSF)) :: (26, .s ((UF.eq (.bool true)).toSF)) :: (27, .s ((UF.eq (.bool true)).toSF)) :: (28, .s ((UF.eq v15).toSF)) :: (29, .s ((UF.eq (.int .i64 ((((nums [0, 1]).length : Nat) : Int)))).toSF)) :: (30, .s ((UF.eq (.bool true)).toSF)) :: (31, .s ((UF.eq (.bool true)).toSF)) :: (32, .s ((UF.eq (.bool true)).toSF)) :: (33, .s ((UF.eq v15).toSF)) :: (34, .s (SF.ptr (CU.is [.int .i64 (((0 : Nat)) : Int)]).cf)) :: (35, .s ((UF.eq (.int .i64 ((((0 : Nat)) : Int)))).toSF)) :: (36, .s ((UF.eq (.bool true)).toSF)) :: (37, .s ((UF.eq (.bool true)).toSF)) :: (38, .s ((UF.eq (.bool true)).toSF)) :: (39, .s ((UF.eq v15).toSF)) :: (40, .s (SF.ptr (CU.is [.int .i64 (((1 : Nat)) : Int)]).cf)) :: (41, .s ((UF.eq (.int .i64 ((((1 : Nat)) : Int)))).toSF)) :: (42, .s ((UF.eq (.bool true)).toSF)) :: (43, .s ((UF.eq (.bool true)).toSF)) :: (44, .s ((UF.eq (.bool true)).toSF)) :: (45, .s ((UF.eq v5).toSF)) :: (46, .s ((fTR (1) (TA)).toSF)) :: (47, .s (SF.row 18 (trs 1 [TA]))) :: (48, .s ((fPN (((((-5) : Int) : Rat), (((0) : Int) : Rat)))).toSF)) :: (49, .s ((UF.eq (.bool true)).toSF)) :: (50, .s ((UF.eq (.bool true)).toSF)) :: (51, .s ((UF.eq (.bool true)).toSF)) :: (52, .s ((UF.eq v5).toSF)) :: (53, .s ((fPN (((((1) : Int) : Rat), (((1) : Int) : Rat)))).toSF)) :: (54, .s (SF.row 6 (pns (shiftV (triK LA 3) ((((1) : Int) : Rat), (((1) : Int) : Rat)))))) :: (55, .s ((UF.eq (.int .i64 ((((pns (shiftV (triK LA 3) ((((1) : Int) : Rat), (((1) : Int) : Rat)))).length : Nat) : Int)))).toSF)) :: (56, .s ((UF.eq (.bool true)).toSF)) :: (57, .s ((UF.eq (.bool true)).toSF)) :: (0, .u (UF.eq (.bool true))) :: []) hmix s (by kernel_rfl)
  (oc ok_move <| oc (ok_slice6 _ _ _ _ _ _ iiz) <| oc (ok_call1 wide_wide en_51 (fun u0 W hb (h0 : (SF.row 1 (ints [1, 1, 2, 1, 2, 2])).p u0 W) => (tri_p (L := [1, 1, 2, 1, 2, 2]) h0 (gI_okS (by decide)).ok (by decide)).mono (Ret.to newRow_row))) <| oc (ok_call2 wide_wide en_13 (fun u0 u1 W hb (h0 : u0 = v5) (h1 : (SF.row 6 (pns (triK [1, 1, 2, 1, 2, 2] 3))).p u1 W) => (apolys_p (m := 1) (ps := triK LA 3) (qs := triK [1, 1, 2, 1, 2, 2] 3) (by rw [show _ = v5 from h0]; exact (SF.row 6 (pvs (1) (triK LA 3))).st _ _ _ hv5 (s.up hb)) (pns_pvs (triK_qb (gI_okS (by decide)) 3) _ _ h1) (by decide) (by decide) (by decide) (by decide) (hT.below (s.up hb))).mono (Ret.to (fun v W h => by rw [wk1] at h; exact h)))) <| oc ok_move <| oc (ok_guard 20 true (by kernel_rfl) iiz (fun _ => ok_move) (fun e => absurd rfl e)) <| oc (ok_guard 20 true (by kernel_rfl) iiz (fun _ => ok_slice6 _ _ _ _ _ _ iiz) (fun e => absurd rfl e)) <| oc (ok_guard 20 true (by kernel_rfl) iiz (fun _ => ok_call1 wide_wide en_51 (fun u0 W hb (h0 : (SF.row 1 (ints [1, 0, 2, 1, 1, 1])).p u0 W) => (tri_p (L := [1, 0, 2, 1, 1, 1]) h0 (gI_okS (by decide)).ok (by decide)).mono (Ret.to newRow_row))) (fun e => absurd rfl e)) <| oc (ok_guard 20 true (by kernel_rfl) iiz (fun _ => ok_call2 wide_wide en_13 (fun u0 u1 W hb (h0 : u0 = v5) (h1 : (SF.row 6 (pns (triK [1, 0, 2, 1, 1, 1] 3))).p u1 W) => (apolys_p (m := 1) (ps := triK LA 3) (qs := triK [1, 0, 2, 1, 1, 1] 3) (by rw [show _ = v5 from h0]; exact (SF.row 6 (pvs (1) (triK LA 3))).st _ _ _ hv5 (s.up hb)) (pns_pvs (triK_qb (gI_okS (by decide)) 3) _ _ h1) (by decide) (by decide) (by decide) (by decide) (hT.below (s.up hb))).mono (Ret.to (fun v W h => by rw [wk2] at h; exact h)))) (fun e => absurd rfl e)) <| oc (ok_guard 20 true (by kernel_rfl) iiz (fun _ => ok_not (false) iiz (fun _ => rfl)) (fun e => absurd rfl e)) <| oc (ok_pick true iiz (fun _ _ _ h => h) (fun e => by cases e)) <| oc ok_move <| oc (ok_guard 27 true (by kernel_rfl) iiz (fun _ => ok_move) (fun e => absurd rfl e)) <| oc (ok_guard 27 true (by kernel_rfl) iiz (fun _ => ok_lenB (z := 1) (Cs := nums [0, 1]) (by kernel_rfl) (fun v W hb h => (by rw [show _ = v15 from h]; exact (SF.row 1 (nums [0, 1])).st _ _ _ hv15 (s.up hb))) (fun _ => rfl)) (fun e => absurd rfl e)) <| oc (ok_guard 27 true (by kernel_rfl) iiz (fun _ => ok_cmpI .i64 ((((nums [0, 1]).length : Nat) : Int)) (2) true iiz iiz (by rfl) rfl) (fun e => absurd rfl e)) <| oc (ok_pick true iiz (fun _ _ _ h => h) (fun e => by cases e)) <| oc ok_move <| oc (ok_guard 32 true (by kernel_rfl) iiz (fun _ => ok_move) (fun e => absurd rfl e)) <| oc (ok_guard 32 true (by kernel_rfl) iiz (fun _ => ok_indexB (z := 1) (Cs := nums [0, 1]) (i := 0) (C := CU.is [.int .i64 (((0 : Nat)) : Int)]) (by kernel_rfl) rfl (fun v W hb h => (by rw [show _ = v15 from h]; exact (SF.row 1 (nums [0, 1])).st _ _ _ hv15 (s.up hb))) iiz) (fun e => absurd rfl e)) <| oc (ok_guard 32 true (by kernel_rfl) iiz (fun _ => ok_load1 (C := (CU.is [.int .i64 (((0 : Nat)) : Int)]).cf) (by kernel_rfl) iiz (is_get)) (fun e => absurd rfl e)) <| oc (ok_guard 32 true (by kernel_rfl) iiz (fun _ => ok_cmpI .i64 ((((0 : Nat)) : Int)) (0) true iiz iiz (by rfl) rfl) (fun e => absurd rfl e)) <| oc (ok_pick true iiz (fun _ _ _ h => h) (fun e => by cases e)) <| oc ok_move <| oc (ok_guard 38 true (by kernel_rfl) iiz (fun _ => ok_move) (fun e => absurd rfl e)) <| oc (ok_guard 38 true (by kernel_rfl) iiz (fun _ => ok_indexB (z := 1) (Cs := nums [0, 1]) (i := 1) (C := CU.is [.int .i64 (((1 : Nat)) : Int)]) (by kernel_rfl) rfl (fun v W hb h => (by rw [show _ = v15 from h]; exact (SF.row 1 (nums [0, 1])).st _ _ _ hv15 (s.up hb))) iiz) (fun e => absurd rfl e)) <| oc (ok_guard 38 true (by kernel_rfl) iiz (fun _ => ok_load1 (C := (CU.is [.int .i64 (((1 : Nat)) : Int)]).cf) (by kernel_rfl) iiz (is_get)) (fun e => absurd rfl e)) <| oc (ok_guard 38 true (by kernel_rfl) iiz (fun _ => ok_cmpI .i64 ((((1 : Nat)) : Int)) (1) true iiz iiz (by rfl) rfl) (fun e => absurd rfl e)) <| oc (ok_pick true iiz (fun _ _ _ h => h) (fun e => by cases e)) <| oc ok_move <| oc (ok_guard 44 true (by kernel_rfl) iiz (fun _ => ok_move) (fun e => absurd rfl e)) <| oc (ok_guard 44 true (by kernel_rfl) iiz (fun _ => ok_ldW (f := fTR (1) (TA)) 18 (by kernel_rfl) (hz := tr_len _ _)) (fun e => absurd rfl e)) <| oc (ok_guard 44 true (by kernel_rfl) iiz (fun _ => ok_slice1 (fun u W (hu : (fTR 1 TA).p u W) => sl_tr1 hu)) (fun e => absurd rfl e)) <| oc (ok_guard 44 true (by kernel_rfl) iiz (fun _ => ok_call2 wide_wide en_17 (fun u0 u1 W hb (h0 : u0 = .int .i64 (-5)) (h1 : u1 = .int .i64 (0)) => r8of_p h0 h1 (by decide) (by decide))) (fun e => absurd rfl e)) <| oc (ok_guard 44 true (by kernel_rfl) iiz (fun _ => ok_call3 wide_wide en_27 (fun u0 u1 u2 W hb (h0 : u0 = v5) (h1 : (SF.row 18 (trs 1 [TA])).p u1 W) (h2 : (fPN (((((-5) : Int) : Rat), (((0) : Int) : Rat)))).p u2 W) => (afree_p (m := 1) (rs := triK LA 3) (ts := [TA]) (p := ((((-5) : Int) : Rat), (((0) : Int) : Rat))) (by rw [show _ = v5 from h0]; exact (SF.row 6 (pvs (1) (triK LA 3))).st _ _ _ hv5 (s.up hb)) h1 (pn_pv (p := ((((-5) : Int) : Rat), (((0) : Int) : Rat))) (m := 1) (qbz (by decide)) (qbz (by decide)) h2) (by decide) (by decide) (by decide) (by decide) (hT.below (s.up hb))).mono (Ret.to (fun v W h => by rw [wk4] at h; exact h)))) (fun e => absurd rfl e)) <| oc (ok_pick true iiz (fun _ _ _ h => h) (fun e => by cases e)) <| oc ok_move <| oc (ok_guard 51 true (by kernel_rfl) iiz (fun _ => ok_move) (fun e => absurd rfl e)) <| oc (ok_guard 51 true (by kernel_rfl) iiz (fun _ => ok_call2 wide_wide en_17 (fun u0 u1 W hb (h0 : u0 = .int .i64 (1)) (h1 : u1 = .int .i64 (1)) => r8of_p h0 h1 (by decide) (by decide))) (fun e => absurd rfl e)) <| oc (ok_guard 51 true (by kernel_rfl) iiz (fun _ => ok_call2 wide_wide en_22 (fun u0 u1 W hb (h0 : u0 = v5) (h1 : (fPN (((((1) : Int) : Rat), (((1) : Int) : Rat)))).p u1 W) => (ashift_p (m := 1) (ps := triK LA 3) (t := ((((1) : Int) : Rat), (((1) : Int) : Rat))) (by rw [show _ = v5 from h0]; exact (SF.row 6 (pvs (1) (triK LA 3))).st _ _ _ hv5 (s.up hb)) (pn_pv (p := ((((1) : Int) : Rat), (((1) : Int) : Rat))) (m := 1) (qbz (by decide)) (qbz (by decide)) h1) (by decide) (by decide) (by decide) (hT.below (s.up hb))).mono (Ret.to newRow_row))) (fun e => absurd rfl e)) <| oc (ok_guard 51 true (by kernel_rfl) iiz (fun _ => ok_lenR (z := 6) (Cs := pns (shiftV (triK LA 3) ((((1) : Int) : Rat), (((1) : Int) : Rat)))) (by kernel_rfl) iiz (fun _ => rfl)) (fun e => absurd rfl e)) <| oc (ok_guard 51 true (by kernel_rfl) iiz (fun _ => ok_cmpI .i64 ((((pns (shiftV (triK LA 3) ((((1) : Int) : Rat), (((1) : Int) : Rat)))).length : Nat) : Int)) (3) true iiz iiz (by rfl) rfl) (fun e => absurd rfl e)) <| oc (ok_pick true iiz (fun _ _ _ h => h) (fun e => by cases e)) <| oc (ok_assign) <| obs_nil) fun a w5 s => ?_
 refine tail_end rfl ?_
 refine wpIn_ret ?_
 exact StS.resB s (hb0.trans (hb1.mono hb0.size)) rfl iiz
end Go.Proofs.Wd

namespace Go.Proofs.Wd
set_option maxRecDepth 100000
set_option maxHeartbeats 1000000
open Go.RowKit Lb
def cmpV (p q : V2) : Int := if qsg p.1 q.1 = 0 then qsg p.2 q.2 else qsg p.1 q.1
theorem cmpV_x {p q : V2} (h : (qsg p.1 q.1 != 0) = true) : cmpV p q = qsg p.1 q.1 := by unfold cmpV; rw [if_neg (by simpa using h)]
theorem cmpV_y {p q : V2} (h : (qsg p.1 q.1 != 0) = false) : cmpV p q = qsg p.2 q.2 := by unfold cmpV; rw [if_pos (by simpa using h)]
theorem rem_nat (a n : Nat) : ((a : Nat) : Int).tmod ((n : Nat) : Int) = ((a % n : Nat) : Int) := rfl
theorem subV_qb {m : Nat} {p q : V2} (hp : QB p.1 m ∧ QB p.2 m) (hq : QB q.1 m ∧ QB q.2 m) : QB (p.1 - q.1) (2 * m + 1) ∧ QB (p.2 - q.2) (2 * m + 1) := ⟨(hp.1.sub hq.1).mono (by omega), (hp.2.sub hq.2).mono (by omega)⟩
open Classical in
noncomputable def convB (l : List V2) : Bool := decide (Conv l)
theorem convB_f {l : List V2} (h : ¬ Conv l) : convB l = false := by classical exact decide_eq_false h
theorem convB_t {l : List V2} (h : Conv l) : convB l = true := by classical exact decide_eq_true h
theorem of_convB {l : List V2} (h : convB l = true) : Conv l := by classical exact of_decide_eq_true h
def goodC (l : List V2) (i k : Nat) : Prop := 0 ≤ edg l i (at_ l k) ∧ (k ≠ i → k ≠ (i + 1) % l.length → 0 < edg l i (at_ l k))
theorem convB_end {l : List V2} (h : ∀ i k, i < l.length → k < l.length → goodC l i k) : convB l = decide (((l.length : Nat) : Int) ≥ 3) := by
 by_cases h3 : 3 ≤ l.length
 ·rw [convB_t ⟨h3, fun i k hi hk => (h i k hi hk).1, fun i k hi hk => (h i k hi hk).2⟩]
  exact (decide_eq_true (by omega)).symm
 ·rw [convB_f (fun hc => h3 hc.three)]
  exact (decide_eq_false (by omega)).symm
inductive CaseC (z : Rat) (k i j : Nat) : Prop
 | neg (h : z.num.sign < 0) (h' : z < 0)
 | pos (h : ¬ z.num.sign < 0) (h' : ¬ z.num.sign = 0) (h2 : 0 < z)
 | atI (h : ¬ z.num.sign < 0) (h' : z.num.sign = 0) (h2 : z = 0) (e : k = i)
 | atJ (h : ¬ z.num.sign < 0) (h' : z.num.sign = 0) (h2 : z = 0) (n : k ≠ i) (e : k = j)
 | bad (h : ¬ z.num.sign < 0) (h' : z.num.sign = 0) (h2 : z = 0) (n : k ≠ i) (n' : k ≠ j)
theorem caseC (z : Rat) (k i j : Nat) : CaseC z k i j := by
 have n0 : z < 0 ↔ z.num < 0 := by rw [Rat.lt_iff]; simp
 have p0 : 0 < z ↔ 0 < z.num := by rw [Rat.lt_iff]; simp
 rcases Int.lt_trichotomy z.num 0 with h | h | h
 ·exact .neg (by rw [Int.sign_eq_neg_one_of_neg h]; decide) (n0.2 h)
 ·have hs : z.num.sign = 0 := by rw [h]; rfl
  have hz : z = 0 := Rat.num_eq_zero.1 h
  by_cases h1 : k = i
  ·exact .atI (by omega) hs hz h1
  ·by_cases h2 : k = j
   ·exact .atJ (by omega) hs hz h1 h2
   ·exact .bad (by omega) hs hz h1 h2
 ·have hs : z.num.sign = 1 := Int.sign_eq_one_of_pos h
  exact .pos (by omega) (by omega) (p0.2 h)
theorem r8cmp_p {m : Nat} {W : World} {u v : Value} {p q : V2} (h1 : (fPV m p).p u W) (h2 : (fPV m q).p v W) (hm : m ≤ 450) (hm0 : 0 < m) : Calls Tryz.prog 31 #[u, v] W (Ret W (fI (cmpV p q)).toSF) := by
 refine run_st [(fPV m p).toSF, (fPV m q).toSF] Tryz.func31 rfl (by kernel_rfl) ⟨h1, h2, trivial⟩ fun a s => ?_
 refine wpIn_seq ?_
 refine region_go 0 [] hmix s (by kernel_rfl)
  obs_nil fun a w1 s => ?_
 refine t_box (CU.agg (fPV (m) (p))) rfl s (by kernel_rfl) (fun v W h => pt_box h) fun b2 a w s => ?_
 refine t_box (CU.agg (fPV (m) (q))) rfl s (by kernel_rfl) (fun v W h => pt_box h) fun b3 a w s => ?_
 refine t_set (UF.eq (.int .i64 (0))) rfl s (by kernel_rfl) iiz fun a w s => ?_
 refine tail_end rfl ?_
 refine wpIn_seq ?_
 refine region_go 6 ((6, .s (SF.ptr ((CU.agg (fPV (m) (p))).cf.at 0))) :: (7, .s ((fRV (m) ((p).1)).toSF)) :: (8, .s (SF.ptr ((CU.agg (fPV (m) (q))).cf.at 0))) :: (9, .s ((fRV (m) ((q).1)).toSF)) :: (10, .s ((UF.eq (.int .i64 (qsg (p).1 (q).1))).toSF)) :: (5, .u (UF.eq (.int .i64 (qsg (p).1 (q).1)))) :: []) hmix s (by kernel_rfl)
  (oc (ok_fld (C := (CU.agg (fPV (m) (p))).cf) 0 (by kernel_rfl)) <| oc (ok_ldA (C := (CU.agg (fPV (m) (p))).cf) (k := 0) 3 (by kernel_rfl) (h := pt_x)) <| oc (ok_fld (C := (CU.agg (fPV (m) (q))).cf) 0 (by kernel_rfl)) <| oc (ok_ldA (C := (CU.agg (fPV (m) (q))).cf) (k := 0) 3 (by kernel_rfl) (h := pt_x)) <| oc (ok_call2 wide_wide en_48 (fun u0 u1 W hb (h0 : RVp (m) ((p).1) u0 W) (h1 : RVp (m) ((q).1) u1 W) => r7cmp_q h0 h1 hm hm0)) <| oc (ok_assign) <| obs_nil) fun a w2 s => ?_
 refine tail_end rfl ?_
 refine wpIn_seq ?_
 refine wpIn_seq ?_
 refine region_go 2 ((11, .s ((UF.eq (.int .i64 (qsg (p).1 (q).1))).toSF)) :: (12, .u (UF.eq (.bool (qsg (p).1 (q).1 != 0)))) :: []) hmix s (by kernel_rfl)
  (oc ok_move <| oc (ok_cmpI .i64 (qsg (p).1 (q).1) (0) (qsg (p).1 (q).1 != 0) iiz iiz rfl rfl) <| obs_nil) fun a w3 s => ?_
 refine tail_end rfl ?_
 refine StS.cond s (qsg (p).1 (q).1 != 0) iiz (fun e => ?_) (fun e => ?_)
 ·refine wpIn_seq ?_
  replace s := s.drop [4]
  refine region_go 2 ((13, .s ((UF.eq (.int .i64 (qsg (p).1 (q).1))).toSF)) :: (4, .u (UF.eq (.int .i64 (qsg (p).1 (q).1)))) :: []) hmix s (by kernel_rfl)
   (oc ok_move <| oc (ok_assign) <| obs_nil) fun a w4 s => ?_
  refine tail_end rfl ?_
  refine wpIn_ret ?_
  exact StS.res1 s (t := 4) rfl (fun v W h => by rw [cmpV_x e]; exact h)
 ·refine wpIn_skip ?_
  refine wpIn_seq ?_
  replace s := s.drop [4]
  refine region_go 6 ((14, .s (SF.ptr ((CU.agg (fPV (m) (p))).cf.at 3))) :: (15, .s ((fRV (m) ((p).2)).toSF)) :: (16, .s (SF.ptr ((CU.agg (fPV (m) (q))).cf.at 3))) :: (17, .s ((fRV (m) ((q).2)).toSF)) :: (18, .s ((UF.eq (.int .i64 (qsg (p).2 (q).2))).toSF)) :: (4, .u (UF.eq (.int .i64 (qsg (p).2 (q).2)))) :: []) hmix s (by kernel_rfl)
   (oc (ok_fld (C := (CU.agg (fPV (m) (p))).cf) 3 (by kernel_rfl)) <| oc (ok_ldA (C := (CU.agg (fPV (m) (p))).cf) (k := 3) 3 (by kernel_rfl) (h := pt_y)) <| oc (ok_fld (C := (CU.agg (fPV (m) (q))).cf) 3 (by kernel_rfl)) <| oc (ok_ldA (C := (CU.agg (fPV (m) (q))).cf) (k := 3) 3 (by kernel_rfl) (h := pt_y)) <| oc (ok_call2 wide_wide en_48 (fun u0 u1 W hb (h0 : RVp (m) ((p).2) u0 W) (h1 : RVp (m) ((q).2) u1 W) => r7cmp_q h0 h1 hm hm0)) <| oc (ok_assign) <| obs_nil) fun a w5 s => ?_
  refine tail_end rfl ?_
  refine wpIn_ret ?_
  exact StS.res1 s (t := 4) rfl (fun v W h => by rw [cmpV_y e]; exact h)
theorem r18conv_p {m : Nat} {W : World} {l : Value} {ps : List V2} (hl : (SF.row 6 (pvs m ps)).p l W) (hm : m ≤ 50) (hm0 : 0 < m) (hn : ps.length ≤ 1000000) : Calls Tryz.prog 11 #[l] W (Ret W (fB (convB ps)).toSF) := by
 have hq := pvs_qb hm0 hl
 refine run_st [(UF.eq l).toSF] Tryz.func11 rfl (by kernel_rfl) ⟨rfl, trivial⟩ fun a s => ?_
 replace s := s.renew [(0, .u (UF.eq l))] (fmz ⟨.inr ⟨_, rfl, .head _⟩, fnz⟩)
 refine wpIn_seq ?_
 refine region_go 1 ((2, .u (UF.eq (.bool false))) :: []) hmix s (by kernel_rfl)
  (oc (ok_assign) <| obs_nil) fun a w1 s => ?_
 refine tail_end rfl ?_
 refine wpIn_seq ?_
 refine wpIn_seq ?_
 refine region_go 1 ((3, .u (UF.eq (.int .i64 (0)))) :: []) hmix s (by kernel_rfl)
  (oc (ok_assign) <| obs_nil) fun a w2 s => ?_
 refine tail_end rfl ?_
 refine wpIn_block ?_
 refine st_whileK (fun i => i ≤ ps.length ∧ ∀ i', i' < i → ∀ k, k < ps.length → goodC ps i' k) (fun i => [(0, .u (UF.eq l)), (3, .u (UF.eq (.int .i64 (((i : Nat) : Int)))))]) (fun i => ps.length - i) ((0 : Nat)) (⟨Nat.zero_le _, fun j hj => absurd hj (Nat.not_lt_zero _)⟩) (s.keepK _ (fmz ⟨mz2, fmz ⟨.head _, fnz⟩⟩)) fun i a w hx s => ?_
 have hxi := hx
 refine wpIn_seq ?_
 refine wpIn_seq ?_
 refine region_go 4 ((8, .s ((UF.eq (.int .i64 (((i : Nat) : Int)))).toSF)) :: (9, .s ((UF.eq l).toSF)) :: (10, .s ((UF.eq (.int .i64 ((((pvs (m) (ps)).length : Nat) : Int)))).toSF)) :: (11, .u (UF.eq (.bool (decide (((i : Nat) : Int) < (((pvs (m) (ps)).length : Nat) : Int)))))) :: []) hmix s (by kernel_rfl)
  (oc ok_move <| oc ok_move <| oc (ok_lenB (z := 6) (Cs := pvs (m) (ps)) (by kernel_rfl) (fun v W hb h => (by rw [show _ = l from h]; exact (SF.row 6 (pvs (m) (ps))).st _ _ _ hl (s.up hb))) (fun _ => rfl)) <| oc (ok_cmpI .i64 (((i : Nat) : Int)) ((((pvs (m) (ps)).length : Nat) : Int)) (decide (((i : Nat) : Int) < (((pvs (m) (ps)).length : Nat) : Int))) iiz iiz rfl rfl) <| obs_nil) fun a w3 s => ?_
 refine tail_end rfl ?_
 refine StS.cond s (decide (((i : Nat) : Int) < (((pvs (m) (ps)).length : Nat) : Int))) iiz (fun e => ?_) (fun e => ?_)
 ·have hi : i < ps.length := by have := of_decide_eq_true e; simp at this; omega
  have hj : ((i + 1) % ps.length) < ps.length := Nat.mod_lt _ (by omega)
  have hlz : (pvs m ps).length = ps.length := by simp
  refine wpIn_skip ?_
  refine wpIn_seq ?_
  refine wpIn_block ?_
  refine wpIn_seq ?_
  have so := s.old; have sg := s.gr
  refine region_goA3 (fun i => [4, 5, 6, 7, 8, 9, 10, 11].contains i) [⟨12, 4, 30, [.bool false, .slice none 0 0, .slice none 0 0, .bool false, .slice none 0 0, .slice none 0 0], SF.newBox w3 30 (CU.len 6)⟩, ⟨13, 5, 30, [.bool false, .slice none 0 0, .slice none 0 0, .bool false, .slice none 0 0, .slice none 0 0], SF.newBox w3 30 (CU.len 6)⟩] 14 ((14, .s ((UF.eq l).toSF)) :: (15, .s ((UF.eq (.int .i64 (((i : Nat) : Int)))).toSF)) :: (16, .s (SF.ptr (CU.agg (fPV (m) ((at_ ps i)))).cf)) :: (17, .u (fPV (m) ((at_ ps i)))) :: (18, .s ((UF.eq l).toSF)) :: (19, .s ((UF.eq (.int .i64 (((i : Nat) : Int)))).toSF)) :: (20, .s ((UF.eq (.int .i64 (((i + 1 : Nat) : Int)))).toSF)) :: (21, .s ((UF.eq l).toSF)) :: (22, .s ((UF.eq (.int .i64 ((((pvs (m) (ps)).length : Nat) : Int)))).toSF)) :: (23, .s ((UF.eq (.int .i64 (((((i + 1) % ps.length) : Nat) : Int)))).toSF)) :: (24, .s ((fOp w3 (CU.agg (fPV (m) ((at_ ps ((i + 1) % ps.length)))))).toSF)) :: (25, .u (fPV (m) ((at_ ps ((i + 1) % ps.length))))) :: (4, .s (SF.newBox w3 30 (CU.len 6))) :: (5, .s (SF.newBox w3 30 (CU.len 6))) :: []) hmix s (fmz ⟨⟨by show 12 < 14; decide, mz12, ⟨_, _, _, rfl⟩, by kernel_rfl, own_new (fun _ => rfl) rfl⟩, fmz ⟨⟨by show 13 < 14; decide, mz13, ⟨_, _, _, rfl⟩, by kernel_rfl, own_new (fun _ => rfl) rfl⟩, fnz⟩⟩) (by kernel_rfl)
   (oc ok_move <| oc ok_move <| oc (ok_indexB (z := 6) (Cs := pvs (m) (ps)) (i := i) (C := CU.agg (fPV (m) ((at_ ps i)))) (by kernel_rfl) (pvs_get hi) (fun v W hb h => (by rw [show _ = l from h]; exact (SF.row 6 (pvs (m) (ps))).st _ _ _ hl (s.up hb))) iiz) <| oc (ok_ldW (f := fPV (m) ((at_ ps i))) 6 (by kernel_rfl) (hz := pt_len _ _)) <| oc ok_move <| oc ok_move <| oc (ok_addI .i64 (((i : Nat) : Int)) (1) (((i + 1 : Nat) : Int)) iiz iiz (wrap64 _ _ (by omega) (by omega))) <| oc ok_move <| oc (ok_lenB (z := 6) (Cs := pvs (m) (ps)) (by kernel_rfl) (fun v W hb h => (by rw [show _ = l from h]; exact (SF.row 6 (pvs (m) (ps))).st _ _ _ hl (s.up hb))) (fun _ => rfl)) <| oc (ok_remI .i64 (((i + 1 : Nat) : Int)) ((((pvs (m) (ps)).length : Nat) : Int)) ((((i + 1) % ps.length) : Nat) : Int) iiz iiz (by omega) (by rw [hlz]; exact rem_nat _ _)) <| oc (ok_indexO (z := 6) (Cs := pvs (m) (ps)) (i := ((i + 1) % ps.length)) (C := CU.agg (fPV (m) ((at_ ps ((i + 1) % ps.length))))) (by kernel_rfl) (pvs_get hj) ((SF.row 6 (pvs (m) (ps))).st _ _ _ hl s.below) iiz iiz) <| oc (ok_loadO (fPV (m) ((at_ ps ((i + 1) % ps.length)))) 6 (by kernel_rfl) iiz (pt_whole)) <| oc (ok_alloc (cs := [.bool false, .slice none 0 0, .slice none 0 0, .bool false, .slice none 0 0, .slice none 0 0]) (by kernel_rfl) (own_new (fun _ => rfl) rfl)) <| oc (ok_alloc (cs := [.bool false, .slice none 0 0, .slice none 0 0, .bool false, .slice none 0 0, .slice none 0 0]) (by kernel_rfl) (own_new (fun _ => rfl) rfl)) <| obs_nil)
   (fds_of (fobs_cons (fun e => absurd e (by decide)) <|
   fobs_cons (fun e => absurd e (by decide)) <|
   fobs_cons (fun e => absurd e (by decide)) <|
   fobs_cons (fun e => absurd e (by decide)) <|
   fobs_cons (fun _ => fd_move) <|
   fobs_cons (fun _ => fd_move) <|
   fobs_cons (fun _ => fd_addI .i64 (((i : Nat) : Int)) (1) iiz iiz) <|
   fobs_cons (fun _ => fd_move) <|
   fobs_cons (fun _ => fd_len (z := 6) (Cs := pvs (m) (ps)) (by kernel_rfl) (fun v W hb h => (by rw [show _ = l from h]; exact (SF.row 6 (pvs (m) (ps))).st _ _ _ hl (s.up hb)))) <|
   fobs_cons (fun _ => fd_remI .i64 (((i + 1 : Nat) : Int)) ((((pvs (m) (ps)).length : Nat) : Int)) iiz iiz (by omega)) <|
   fobs_cons (fun _ => fd_indexO (z := 6) (Cs := pvs (m) (ps)) (i := ((i + 1) % ps.length)) (C := CU.agg (fPV (m) ((at_ ps ((i + 1) % ps.length))))) (by kernel_rfl) (pvs_get hj) ((SF.row 6 (pvs (m) (ps))).st _ _ _ hl s.below) iiz iiz) <|
   fobs_cons (fun _ => fd_loadO (fPV (m) ((at_ ps ((i + 1) % ps.length)))) 6 (by kernel_rfl) iiz (pt_whole)) <|
   fobs_cons (fun e => absurd e (by decide)) <|
   fobs_cons (fun e => absurd e (by decide)) <| fobs_nil)) fun Q' hQ a w4 hg s hr hd => ?_
  obtain ⟨b4, hB4, e4, s⟩ := s.adoptA false 4 (hr (_, _) mz12) sg (fun y hy => .inl (so y hy))
  obtain ⟨b5, hB5, e5, s⟩ := s.adoptA false 5 (hr (_, _) mz13) sg (fun y hy => by rcases List.mem_cons.1 hy with rfl | hy; exact .inr (.inr fun b hb => hd _ _ (.head _) mz1 (by show 12 ≠ 13; decide) _ _ e4 hb); exact .inl (so y hy))
  refine tC_store (CU.agg (fPV (m) ((at_ ps i)))) ((fPV (m) ((at_ ps i))).toSF) rfl s hg (by kernel_rfl) rfl rfl hB4 rfl iiz iiz (pt_store) fun a w s hg => ?_
  refine tC_store (CU.agg (fPV (m) ((at_ ps ((i + 1) % ps.length))))) ((fPV (m) ((at_ ps ((i + 1) % ps.length)))).toSF) rfl s hg (by kernel_rfl) rfl rfl hB5 rfl iiz iiz (pt_store) fun a w s hg => ?_
  refine tailC_end rfl (hQ _ _ ?_)
  refine wpIn_seq ?_
  refine region_go 1 ((6, .u (UF.eq (.int .i64 (0)))) :: []) hmix s (by kernel_rfl)
   (oc (ok_assign) <| obs_nil) fun a w5 s => ?_
  refine tail_end rfl ?_
  refine wpIn_block ?_
  refine st_whileK (fun k => k ≤ ps.length ∧ ∀ k', k' < k → goodC ps i k') (fun k => [(0, .u (UF.eq l)), (3, .u (UF.eq (.int .i64 (((i : Nat) : Int))))), (6, .u (UF.eq (.int .i64 (((k : Nat) : Int)))))]) (fun k => ps.length - k) ((0 : Nat)) (⟨Nat.zero_le _, fun j hj => absurd hj (Nat.not_lt_zero _)⟩) (s.keepK _ (fmz ⟨mz4, fmz ⟨mz5, fmz ⟨.head _, fnz⟩⟩⟩)) fun k a w hx s => ?_
  refine wpIn_seq ?_
  refine wpIn_seq ?_
  refine region_go 4 ((26, .s ((UF.eq (.int .i64 (((k : Nat) : Int)))).toSF)) :: (27, .s ((UF.eq l).toSF)) :: (28, .s ((UF.eq (.int .i64 ((((pvs (m) (ps)).length : Nat) : Int)))).toSF)) :: (29, .u (UF.eq (.bool (decide (((k : Nat) : Int) < (((pvs (m) (ps)).length : Nat) : Int)))))) :: []) hmix s (by kernel_rfl)
   (oc ok_move <| oc ok_move <| oc (ok_lenB (z := 6) (Cs := pvs (m) (ps)) (by kernel_rfl) (fun v W hb h => (by rw [show _ = l from h]; exact (SF.row 6 (pvs (m) (ps))).st _ _ _ hl (s.up hb))) (fun _ => rfl)) <| oc (ok_cmpI .i64 (((k : Nat) : Int)) ((((pvs (m) (ps)).length : Nat) : Int)) (decide (((k : Nat) : Int) < (((pvs (m) (ps)).length : Nat) : Int))) iiz iiz rfl rfl) <| obs_nil) fun a w6 s => ?_
  refine tail_end rfl ?_
  refine StS.cond s (decide (((k : Nat) : Int) < (((pvs (m) (ps)).length : Nat) : Int))) iiz (fun e => ?_) (fun e => ?_)
  ·have hk : k < ps.length := by have := of_decide_eq_true e; simp at this; omega
   refine wpIn_skip ?_
   refine wpIn_seq ?_
   refine wpIn_block ?_
   refine wpIn_seq ?_
   refine region_go 12 ((32, .s ((fPV (m) ((at_ ps ((i + 1) % ps.length)))).toSF)) :: (33, .s ((fPV (m) ((at_ ps i))).toSF)) :: (34, .s ((fPN ((((at_ ps ((i + 1) % ps.length))).1 - ((at_ ps i)).1, ((at_ ps ((i + 1) % ps.length))).2 - ((at_ ps i)).2))).toSF)) :: (35, .s ((UF.eq l).toSF)) :: (36, .s ((UF.eq (.int .i64 (((k : Nat) : Int)))).toSF)) :: (37, .s (SF.ptr (CU.agg (fPV (m) ((at_ ps k)))).cf)) :: (38, .s ((fPV (m) ((at_ ps k))).toSF)) :: (39, .s ((fPV (m) ((at_ ps i))).toSF)) :: (40, .s ((fPN ((((at_ ps k)).1 - ((at_ ps i)).1, ((at_ ps k)).2 - ((at_ ps i)).2))).toSF)) :: (41, .s ((fQN ((edg ps i (at_ ps k)))).toSF)) :: (42, .s ((UF.eq (.int .i64 ((edg ps i (at_ ps k)).num.sign))).toSF)) :: (7, .u (UF.eq (.int .i64 ((edg ps i (at_ ps k)).num.sign)))) :: []) hmix s (by kernel_rfl)
    (oc (ok_ldW (f := fPV (m) ((at_ ps ((i + 1) % ps.length)))) 6 (by kernel_rfl) (hz := pt_len _ _)) <| oc (ok_ldW (f := fPV (m) ((at_ ps i))) 6 (by kernel_rfl) (hz := pt_len _ _)) <| oc (ok_call2 wide_wide en_33 (fun u0 u1 W hb (h0 : (fPV (m) ((at_ ps ((i + 1) % ps.length)))).p u0 W) (h1 : (fPV (m) ((at_ ps i))).p u1 W) => r8sub_p (m := m) (p := (at_ ps ((i + 1) % ps.length))) (q := (at_ ps i)) h0 h1 (by omega) hm0)) <| oc ok_move <| oc ok_move <| oc (ok_indexB (z := 6) (Cs := pvs (m) (ps)) (i := k) (C := CU.agg (fPV (m) ((at_ ps k)))) (by kernel_rfl) (pvs_get hk) (fun v W hb h => (by rw [show _ = l from h]; exact (SF.row 6 (pvs (m) (ps))).st _ _ _ hl (s.up hb))) iiz) <| oc (ok_ldW (f := fPV (m) ((at_ ps k))) 6 (by kernel_rfl) (hz := pt_len _ _)) <| oc (ok_ldW (f := fPV (m) ((at_ ps i))) 6 (by kernel_rfl) (hz := pt_len _ _)) <| oc (ok_call2 wide_wide en_33 (fun u0 u1 W hb (h0 : (fPV (m) ((at_ ps k))).p u0 W) (h1 : (fPV (m) ((at_ ps i))).p u1 W) => r8sub_p (m := m) (p := (at_ ps k)) (q := (at_ ps i)) h0 h1 (by omega) hm0)) <| oc (ok_call2 wide_wide en_50 (fun u0 u1 W hb (h0 : (fPN ((((at_ ps ((i + 1) % ps.length))).1 - ((at_ ps i)).1, ((at_ ps ((i + 1) % ps.length))).2 - ((at_ ps i)).2))).p u0 W) (h1 : (fPN ((((at_ ps k)).1 - ((at_ ps i)).1, ((at_ ps k)).2 - ((at_ ps i)).2))).p u1 W) => r8cross_p (m := 2 * m + 1) (p := (((at_ ps ((i + 1) % ps.length))).1 - ((at_ ps i)).1, ((at_ ps ((i + 1) % ps.length))).2 - ((at_ ps i)).2)) (q := (((at_ ps k)).1 - ((at_ ps i)).1, ((at_ ps k)).2 - ((at_ ps i)).2)) (pn_pv (p := (((at_ ps ((i + 1) % ps.length))).1 - ((at_ ps i)).1, ((at_ ps ((i + 1) % ps.length))).2 - ((at_ ps i)).2)) (m := (2 * m + 1)) ((subV_qb (hq _ (at_mem hj)) (hq _ (at_mem hi))).1.mono (by first | omega | decide)) ((subV_qb (hq _ (at_mem hj)) (hq _ (at_mem hi))).2.mono (by first | omega | decide)) h0) (pn_pv (p := (((at_ ps k)).1 - ((at_ ps i)).1, ((at_ ps k)).2 - ((at_ ps i)).2)) (m := (2 * m + 1)) ((subV_qb (hq _ (at_mem hk)) (hq _ (at_mem hi))).1.mono (by first | omega | decide)) ((subV_qb (hq _ (at_mem hk)) (hq _ (at_mem hi))).2.mono (by first | omega | decide)) h1) (subV_qb (hq _ (at_mem hj)) (hq _ (at_mem hi))) (subV_qb (hq _ (at_mem hk)) (hq _ (at_mem hi))) (by omega) (by omega))) <| oc (ok_call1 wide_wide en_47 (fun u0 W hb (h0 : QNp ((edg ps i (at_ ps k))) u0 W) => r7sign_q (m := ((2 * m + 1) + (2 * m + 1) + ((2 * m + 1) + (2 * m + 1)) + 1)) (QNp.rv h0 (((subV_qb (hq _ (at_mem hj)) (hq _ (at_mem hi))).1.mul (subV_qb (hq _ (at_mem hk)) (hq _ (at_mem hi))).2).sub ((subV_qb (hq _ (at_mem hj)) (hq _ (at_mem hi))).2.mul (subV_qb (hq _ (at_mem hk)) (hq _ (at_mem hi))).1))) (by omega))) <| oc (ok_assign) <| obs_nil) fun a w7 s => ?_
   refine tail_end rfl ?_
   refine wpIn_seq ?_
   rcases caseC (edg ps i (at_ ps k)) k i ((i + 1) % ps.length) with ⟨c1, c2⟩ | ⟨c1, c2, c3⟩ | ⟨c1, c2, c3, c4⟩ | ⟨c1, c2, c3, c4, c5⟩ | ⟨c1, c2, c3, c4, c5⟩
   ·refine region_go 0 [] hmix s (by kernel_rfl)
     obs_nil fun a w8 s => ?_
    refine t_gd (UF.eq (.int .i64 ((edg ps i (at_ ps k)).num.sign))) rfl s (by kernel_rfl) (ok_move) (by kernel_rfl) fun a w s => ?_
    refine t_gd (UF.eq (.bool true)) rfl s (by kernel_rfl) (ok_cmpI .i64 ((edg ps i (at_ ps k)).num.sign) (0) true iiz iiz (decide_eq_true c1) rfl) (by kernel_rfl) fun a w s => ?_
    refine t_gd (UF.eq (.bool true)) rfl s (by kernel_rfl) (ok_move) (by kernel_rfl) fun a w s => ?_
    refine t_skip (.bool true) rfl rfl s iiz (by kernel_rfl) (by kernel_rfl) (fun a w s => ?_)
    refine t_skip (.bool true) rfl rfl s iiz (by kernel_rfl) (by kernel_rfl) (fun a w s => ?_)
    refine t_skip (.bool true) rfl rfl s iiz (by kernel_rfl) (by kernel_rfl) (fun a w s => ?_)
    refine t_skip (undef) rfl rfl s iiz (by kernel_rfl) (by kernel_rfl) (fun a w s => ?_)
    refine t_skip (undef) rfl rfl s iiz (by kernel_rfl) (by kernel_rfl) (fun a w s => ?_)
    refine t_skip (undef) rfl rfl s iiz (by kernel_rfl) (by kernel_rfl) (fun a w s => ?_)
    refine t_skip (.bool true) rfl rfl s iiz (by kernel_rfl) (by kernel_rfl) (fun a w s => ?_)
    refine t_skip (.bool true) rfl rfl s iiz (by kernel_rfl) (by kernel_rfl) (fun a w s => ?_)
    refine t_skip (undef) rfl rfl s iiz (by kernel_rfl) (by kernel_rfl) (fun a w s => ?_)
    refine t_skip (undef) rfl rfl s iiz (by kernel_rfl) (by kernel_rfl) (fun a w s => ?_)
    refine t_skip (undef) rfl rfl s iiz (by kernel_rfl) (by kernel_rfl) (fun a w s => ?_)
    refine t_skip (undef) rfl rfl s iiz (by kernel_rfl) (by kernel_rfl) (fun a w s => ?_)
    refine t_skip (undef) rfl rfl s iiz (by kernel_rfl) (by kernel_rfl) (fun a w s => ?_)
    refine t_skip (undef) rfl rfl s iiz (by kernel_rfl) (by kernel_rfl) (fun a w s => ?_)
    refine t_skip (undef) rfl rfl s iiz (by kernel_rfl) (by kernel_rfl) (fun a w s => ?_)
    refine t_skip (.bool true) rfl rfl s iiz (by kernel_rfl) (by kernel_rfl) (fun a w s => ?_)
    refine t_gd (UF.eq (.bool true)) rfl s (by kernel_rfl) (ok_pick true iiz (fun _ _ _ h => h) (fun e => by cases e)) (by kernel_rfl) fun a w s => ?_
    refine tail_end rfl ?_
    refine StS.cond s true iiz (fun e => ?_) (fun e => by cases e)
    refine wpIn_seq ?_
    refine region_go 1 ((2, .u (UF.eq (.bool false))) :: []) hmix s (by kernel_rfl)
     (oc (ok_assign) <| obs_nil) fun a w9 s => ?_
    refine tail_end rfl ?_
    refine wpIn_ret ?_
    exact StS.res1 s (t := 2) rfl (fun v W h => by rw [convB_f (fun hc => Rat.not_le.2 c2 (hc.left i k hi hk))]; exact h)
   ·refine region_go 0 [] hmix s (by kernel_rfl)
     obs_nil fun a w10 s => ?_
    refine t_gd (UF.eq (.int .i64 ((edg ps i (at_ ps k)).num.sign))) rfl s (by kernel_rfl) (ok_move) (by kernel_rfl) fun a w s => ?_
    refine t_gd (UF.eq (.bool false)) rfl s (by kernel_rfl) (ok_cmpI .i64 ((edg ps i (at_ ps k)).num.sign) (0) false iiz iiz (decide_eq_false c1) rfl) (by kernel_rfl) fun a w s => ?_
    refine t_gd (UF.eq (.bool false)) rfl s (by kernel_rfl) (ok_move) (by kernel_rfl) fun a w s => ?_
    refine t_gdW (UF.eq (.int .i64 ((edg ps i (at_ ps k)).num.sign))) rfl rfl s iiz (by kernel_rfl) (ok_move) (by kernel_rfl) fun a w s => ?_
    refine t_gdW (UF.eq (.bool false)) rfl rfl s iiz (by kernel_rfl) (ok_cmpI .i64 ((edg ps i (at_ ps k)).num.sign) (0) false iiz iiz (beq_eq_false_iff_ne.2 c2) rfl) (by kernel_rfl) fun a w s => ?_
    refine t_gdW (UF.eq (.bool false)) rfl rfl s iiz (by kernel_rfl) (ok_move) (by kernel_rfl) fun a w s => ?_
    refine t_skip (.bool false) rfl rfl s iiz (by kernel_rfl) (by kernel_rfl) (fun a w s => ?_)
    refine t_skip (.bool false) rfl rfl s iiz (by kernel_rfl) (by kernel_rfl) (fun a w s => ?_)
    refine t_skip (.bool false) rfl rfl s iiz (by kernel_rfl) (by kernel_rfl) (fun a w s => ?_)
    refine t_gdW (UF.eq (.bool false)) rfl rfl s iiz (by kernel_rfl) (ok_pick false iiz (fun e => by cases e) (fun _ _ _ h => h)) (by kernel_rfl) fun a w s => ?_
    refine t_gdW (UF.eq (.bool false)) rfl rfl s iiz (by kernel_rfl) (ok_move) (by kernel_rfl) fun a w s => ?_
    refine t_skip (.bool false) rfl rfl s iiz (by kernel_rfl) (by kernel_rfl) (fun a w s => ?_)
    refine t_skip (.bool false) rfl rfl s iiz (by kernel_rfl) (by kernel_rfl) (fun a w s => ?_)
    refine t_skip (.bool false) rfl rfl s iiz (by kernel_rfl) (by kernel_rfl) (fun a w s => ?_)
    refine t_skip (.bool false) rfl rfl s iiz (by kernel_rfl) (by kernel_rfl) (fun a w s => ?_)
    refine t_skip (.bool false) rfl rfl s iiz (by kernel_rfl) (by kernel_rfl) (fun a w s => ?_)
    refine t_skip (.bool false) rfl rfl s iiz (by kernel_rfl) (by kernel_rfl) (fun a w s => ?_)
    refine t_skip (.bool false) rfl rfl s iiz (by kernel_rfl) (by kernel_rfl) (fun a w s => ?_)
    refine t_gdW (UF.eq (.bool false)) rfl rfl s iiz (by kernel_rfl) (ok_pick false iiz (fun e => by cases e) (fun _ _ _ h => h)) (by kernel_rfl) fun a w s => ?_
    refine t_gd (UF.eq (.bool false)) rfl s (by kernel_rfl) (ok_pick false iiz (fun e => by cases e) (fun _ _ _ h => h)) (by kernel_rfl) fun a w s => ?_
    refine tail_end rfl ?_
    refine StS.cond s false iiz (fun e => by cases e) (fun e => ?_)
    refine wpIn_skip ?_
    have hgood : goodC ps i k := ⟨Rat.le_of_lt c3, fun _ _ => c3⟩
    refine region_goS 2 ((30, .s ((UF.eq (.int .i64 (((k : Nat) : Int)))).toSF)) :: (31, .u (UF.eq (.int .i64 (((k + 1 : Nat) : Int))))) :: []) s (by kernel_rfl)
     (oc ok_move <| oc (ok_addI .i64 (((k : Nat) : Int)) (1) (((k + 1 : Nat) : Int)) iiz iiz (wrap64 _ _ (by omega) (by omega))) <| obs_nil) fun a w11 s => ?_
    replace s := s.drop [6]
    refine t_set (UF.eq (.int .i64 (((k + 1 : Nat) : Int)))) rfl s (by kernel_rfl) iiz fun a w s => ?_
    refine tail_end rfl ?_
    exact ⟨k + 1, ⟨hk, fun j hj => by rcases Nat.lt_or_eq_of_le (Nat.le_of_lt_succ hj) with h | h; exact hx.2 j h; rw [h]; exact hgood⟩, (by show ps.length - (k + 1) < ps.length - k; omega), s.keepK _ (fmz ⟨.tail _ (.tail _ (.tail _ (.tail _ (.tail _ (.tail _ (.tail _ (.tail _ (.tail _ mz15)))))))), fmz ⟨.tail _ (.tail _ (.tail _ (.tail _ (.tail _ (.tail _ (.tail _ (.tail _ (.tail _ (.tail _ mz15))))))))), fmz ⟨.head _, fnz⟩⟩⟩)⟩
   ·refine region_go 0 [] hmix s (by kernel_rfl)
     obs_nil fun a w12 s => ?_
    refine t_gd (UF.eq (.int .i64 ((edg ps i (at_ ps k)).num.sign))) rfl s (by kernel_rfl) (ok_move) (by kernel_rfl) fun a w s => ?_
    refine t_gd (UF.eq (.bool false)) rfl s (by kernel_rfl) (ok_cmpI .i64 ((edg ps i (at_ ps k)).num.sign) (0) false iiz iiz (decide_eq_false c1) rfl) (by kernel_rfl) fun a w s => ?_
    refine t_gd (UF.eq (.bool false)) rfl s (by kernel_rfl) (ok_move) (by kernel_rfl) fun a w s => ?_
    refine t_gdW (UF.eq (.int .i64 ((edg ps i (at_ ps k)).num.sign))) rfl rfl s iiz (by kernel_rfl) (ok_move) (by kernel_rfl) fun a w s => ?_
    refine t_gdW (UF.eq (.bool true)) rfl rfl s iiz (by kernel_rfl) (ok_cmpI .i64 ((edg ps i (at_ ps k)).num.sign) (0) true iiz iiz (beq_iff_eq.2 c2) rfl) (by kernel_rfl) fun a w s => ?_
    refine t_gdW (UF.eq (.bool true)) rfl rfl s iiz (by kernel_rfl) (ok_move) (by kernel_rfl) fun a w s => ?_
    refine t_gdW (UF.eq (.int .i64 (((k : Nat) : Int)))) rfl rfl s iiz (by kernel_rfl) (ok_move) (by kernel_rfl) fun a w s => ?_
    refine t_gdW (UF.eq (.int .i64 (((i : Nat) : Int)))) rfl rfl s iiz (by kernel_rfl) (ok_move) (by kernel_rfl) fun a w s => ?_
    refine t_gdW (UF.eq (.bool false)) rfl rfl s iiz (by kernel_rfl) (ok_cmpI .i64 (((k : Nat) : Int)) (((i : Nat) : Int)) false iiz iiz (by rw [c4]; exact bne_self_eq_false _) rfl) (by kernel_rfl) fun a w s => ?_
    refine t_gdW (UF.eq (.bool false)) rfl rfl s iiz (by kernel_rfl) (ok_pick true iiz (fun _ _ _ h => h) (fun e => by cases e)) (by kernel_rfl) fun a w s => ?_
    refine t_gdW (UF.eq (.bool false)) rfl rfl s iiz (by kernel_rfl) (ok_move) (by kernel_rfl) fun a w s => ?_
    refine t_skip (.bool false) rfl rfl s iiz (by kernel_rfl) (by kernel_rfl) (fun a w s => ?_)
    refine t_skip (.bool false) rfl rfl s iiz (by kernel_rfl) (by kernel_rfl) (fun a w s => ?_)
    refine t_skip (.bool false) rfl rfl s iiz (by kernel_rfl) (by kernel_rfl) (fun a w s => ?_)
    refine t_skip (.bool false) rfl rfl s iiz (by kernel_rfl) (by kernel_rfl) (fun a w s => ?_)
    refine t_skip (.bool false) rfl rfl s iiz (by kernel_rfl) (by kernel_rfl) (fun a w s => ?_)
    refine t_skip (.bool false) rfl rfl s iiz (by kernel_rfl) (by kernel_rfl) (fun a w s => ?_)
    refine t_skip (.bool false) rfl rfl s iiz (by kernel_rfl) (by kernel_rfl) (fun a w s => ?_)
    refine t_gdW (UF.eq (.bool false)) rfl rfl s iiz (by kernel_rfl) (ok_pick false iiz (fun e => by cases e) (fun _ _ _ h => h)) (by kernel_rfl) fun a w s => ?_
    refine t_gd (UF.eq (.bool false)) rfl s (by kernel_rfl) (ok_pick false iiz (fun e => by cases e) (fun _ _ _ h => h)) (by kernel_rfl) fun a w s => ?_
    refine tail_end rfl ?_
    refine StS.cond s false iiz (fun e => by cases e) (fun e => ?_)
    refine wpIn_skip ?_
    have hgood : goodC ps i k := ⟨by rw [c3]; exact Rat.le_refl, fun h _ => absurd c4 h⟩
    refine region_goS 2 ((30, .s ((UF.eq (.int .i64 (((k : Nat) : Int)))).toSF)) :: (31, .u (UF.eq (.int .i64 (((k + 1 : Nat) : Int))))) :: []) s (by kernel_rfl)
     (oc ok_move <| oc (ok_addI .i64 (((k : Nat) : Int)) (1) (((k + 1 : Nat) : Int)) iiz iiz (wrap64 _ _ (by omega) (by omega))) <| obs_nil) fun a w13 s => ?_
    replace s := s.drop [6]
    refine t_set (UF.eq (.int .i64 (((k + 1 : Nat) : Int)))) rfl s (by kernel_rfl) iiz fun a w s => ?_
    refine tail_end rfl ?_
    exact ⟨k + 1, ⟨hk, fun j hj => by rcases Nat.lt_or_eq_of_le (Nat.le_of_lt_succ hj) with h | h; exact hx.2 j h; rw [h]; exact hgood⟩, (by show ps.length - (k + 1) < ps.length - k; omega), s.keepK _ (fmz ⟨.tail _ (.tail _ (.tail _ (.tail _ (.tail _ (.tail _ (.tail _ (.tail _ (.tail _ mz15)))))))), fmz ⟨.tail _ (.tail _ (.tail _ (.tail _ (.tail _ (.tail _ (.tail _ (.tail _ (.tail _ (.tail _ mz15))))))))), fmz ⟨.head _, fnz⟩⟩⟩)⟩
   ·refine region_go 0 [] hmix s (by kernel_rfl)
     obs_nil fun a w14 s => ?_
    refine t_gd (UF.eq (.int .i64 ((edg ps i (at_ ps k)).num.sign))) rfl s (by kernel_rfl) (ok_move) (by kernel_rfl) fun a w s => ?_
    refine t_gd (UF.eq (.bool false)) rfl s (by kernel_rfl) (ok_cmpI .i64 ((edg ps i (at_ ps k)).num.sign) (0) false iiz iiz (decide_eq_false c1) rfl) (by kernel_rfl) fun a w s => ?_
    refine t_gd (UF.eq (.bool false)) rfl s (by kernel_rfl) (ok_move) (by kernel_rfl) fun a w s => ?_
    refine t_gdW (UF.eq (.int .i64 ((edg ps i (at_ ps k)).num.sign))) rfl rfl s iiz (by kernel_rfl) (ok_move) (by kernel_rfl) fun a w s => ?_
    refine t_gdW (UF.eq (.bool true)) rfl rfl s iiz (by kernel_rfl) (ok_cmpI .i64 ((edg ps i (at_ ps k)).num.sign) (0) true iiz iiz (beq_iff_eq.2 c2) rfl) (by kernel_rfl) fun a w s => ?_
    refine t_gdW (UF.eq (.bool true)) rfl rfl s iiz (by kernel_rfl) (ok_move) (by kernel_rfl) fun a w s => ?_
    refine t_gdW (UF.eq (.int .i64 (((k : Nat) : Int)))) rfl rfl s iiz (by kernel_rfl) (ok_move) (by kernel_rfl) fun a w s => ?_
    refine t_gdW (UF.eq (.int .i64 (((i : Nat) : Int)))) rfl rfl s iiz (by kernel_rfl) (ok_move) (by kernel_rfl) fun a w s => ?_
    refine t_gdW (UF.eq (.bool true)) rfl rfl s iiz (by kernel_rfl) (ok_cmpI .i64 (((k : Nat) : Int)) (((i : Nat) : Int)) true iiz iiz (bne_iff_ne.2 (by omega)) rfl) (by kernel_rfl) fun a w s => ?_
    refine t_gdW (UF.eq (.bool true)) rfl rfl s iiz (by kernel_rfl) (ok_pick true iiz (fun _ _ _ h => h) (fun e => by cases e)) (by kernel_rfl) fun a w s => ?_
    refine t_gdW (UF.eq (.bool true)) rfl rfl s iiz (by kernel_rfl) (ok_move) (by kernel_rfl) fun a w s => ?_
    refine t_gdW (UF.eq (.int .i64 (((k : Nat) : Int)))) rfl rfl s iiz (by kernel_rfl) (ok_move) (by kernel_rfl) fun a w s => ?_
    refine t_gdW (UF.eq (.int .i64 (((i : Nat) : Int)))) rfl rfl s iiz (by kernel_rfl) (ok_move) (by kernel_rfl) fun a w s => ?_
    refine t_gdW (UF.eq (.int .i64 (((i + 1 : Nat) : Int)))) rfl rfl s iiz (by kernel_rfl) (ok_addI .i64 (((i : Nat) : Int)) (1) (((i + 1 : Nat) : Int)) iiz iiz (wrap64 _ _ (by omega) (by omega))) (by kernel_rfl) fun a w s => ?_
    refine t_gdW (UF.eq l) rfl rfl s iiz (by kernel_rfl) (ok_move) (by kernel_rfl) fun a w s => ?_
    refine t_gdW (UF.eq (.int .i64 ((((pvs (m) (ps)).length : Nat) : Int)))) rfl rfl s iiz (by kernel_rfl) (ok_lenB (z := 6) (Cs := pvs (m) (ps)) (by kernel_rfl) (fun v W hb h => (by rw [show _ = l from h]; exact (SF.row 6 (pvs (m) (ps))).st _ _ _ hl (s.up hb))) (fun _ => rfl)) (by kernel_rfl) fun a w s => ?_
    refine t_gdW (UF.eq (.int .i64 (((((i + 1) % ps.length) : Nat) : Int)))) rfl rfl s iiz (by kernel_rfl) (ok_remI .i64 (((i + 1 : Nat) : Int)) ((((pvs (m) (ps)).length : Nat) : Int)) ((((i + 1) % ps.length) : Nat) : Int) iiz iiz (by omega) (by rw [hlz]; exact rem_nat _ _)) (by kernel_rfl) fun a w s => ?_
    refine t_gdW (UF.eq (.bool false)) rfl rfl s iiz (by kernel_rfl) (ok_cmpI .i64 (((k : Nat) : Int)) (((((i + 1) % ps.length) : Nat) : Int)) false iiz iiz (by rw [c5]; exact bne_self_eq_false _) rfl) (by kernel_rfl) fun a w s => ?_
    refine t_gdW (UF.eq (.bool false)) rfl rfl s iiz (by kernel_rfl) (ok_pick true iiz (fun _ _ _ h => h) (fun e => by cases e)) (by kernel_rfl) fun a w s => ?_
    refine t_gd (UF.eq (.bool false)) rfl s (by kernel_rfl) (ok_pick false iiz (fun e => by cases e) (fun _ _ _ h => h)) (by kernel_rfl) fun a w s => ?_
    refine tail_end rfl ?_
    refine StS.cond s false iiz (fun e => by cases e) (fun e => ?_)
    refine wpIn_skip ?_
    have hgood : goodC ps i k := ⟨by rw [c3]; exact Rat.le_refl, fun _ h => absurd c5 h⟩
    refine region_goS 2 ((30, .s ((UF.eq (.int .i64 (((k : Nat) : Int)))).toSF)) :: (31, .u (UF.eq (.int .i64 (((k + 1 : Nat) : Int))))) :: []) s (by kernel_rfl)
     (oc ok_move <| oc (ok_addI .i64 (((k : Nat) : Int)) (1) (((k + 1 : Nat) : Int)) iiz iiz (wrap64 _ _ (by omega) (by omega))) <| obs_nil) fun a w15 s => ?_
    replace s := s.drop [6]
    refine t_set (UF.eq (.int .i64 (((k + 1 : Nat) : Int)))) rfl s (by kernel_rfl) iiz fun a w s => ?_
    refine tail_end rfl ?_
    exact ⟨k + 1, ⟨hk, fun j hj => by rcases Nat.lt_or_eq_of_le (Nat.le_of_lt_succ hj) with h | h; exact hx.2 j h; rw [h]; exact hgood⟩, (by show ps.length - (k + 1) < ps.length - k; omega), s.keepK _ (fmz ⟨.tail _ (.tail _ (.tail _ (.tail _ (.tail _ (.tail _ (.tail _ (.tail _ (.tail _ mz15)))))))), fmz ⟨.tail _ (.tail _ (.tail _ (.tail _ (.tail _ (.tail _ (.tail _ (.tail _ (.tail _ (.tail _ mz15))))))))), fmz ⟨.head _, fnz⟩⟩⟩)⟩
   ·refine region_go 0 [] hmix s (by kernel_rfl)
     obs_nil fun a w16 s => ?_
    refine t_gd (UF.eq (.int .i64 ((edg ps i (at_ ps k)).num.sign))) rfl s (by kernel_rfl) (ok_move) (by kernel_rfl) fun a w s => ?_
    refine t_gd (UF.eq (.bool false)) rfl s (by kernel_rfl) (ok_cmpI .i64 ((edg ps i (at_ ps k)).num.sign) (0) false iiz iiz (decide_eq_false c1) rfl) (by kernel_rfl) fun a w s => ?_
    refine t_gd (UF.eq (.bool false)) rfl s (by kernel_rfl) (ok_move) (by kernel_rfl) fun a w s => ?_
    refine t_gdW (UF.eq (.int .i64 ((edg ps i (at_ ps k)).num.sign))) rfl rfl s iiz (by kernel_rfl) (ok_move) (by kernel_rfl) fun a w s => ?_
    refine t_gdW (UF.eq (.bool true)) rfl rfl s iiz (by kernel_rfl) (ok_cmpI .i64 ((edg ps i (at_ ps k)).num.sign) (0) true iiz iiz (beq_iff_eq.2 c2) rfl) (by kernel_rfl) fun a w s => ?_
    refine t_gdW (UF.eq (.bool true)) rfl rfl s iiz (by kernel_rfl) (ok_move) (by kernel_rfl) fun a w s => ?_
    refine t_gdW (UF.eq (.int .i64 (((k : Nat) : Int)))) rfl rfl s iiz (by kernel_rfl) (ok_move) (by kernel_rfl) fun a w s => ?_
    refine t_gdW (UF.eq (.int .i64 (((i : Nat) : Int)))) rfl rfl s iiz (by kernel_rfl) (ok_move) (by kernel_rfl) fun a w s => ?_
    refine t_gdW (UF.eq (.bool true)) rfl rfl s iiz (by kernel_rfl) (ok_cmpI .i64 (((k : Nat) : Int)) (((i : Nat) : Int)) true iiz iiz (bne_iff_ne.2 (by omega)) rfl) (by kernel_rfl) fun a w s => ?_
    refine t_gdW (UF.eq (.bool true)) rfl rfl s iiz (by kernel_rfl) (ok_pick true iiz (fun _ _ _ h => h) (fun e => by cases e)) (by kernel_rfl) fun a w s => ?_
    refine t_gdW (UF.eq (.bool true)) rfl rfl s iiz (by kernel_rfl) (ok_move) (by kernel_rfl) fun a w s => ?_
    refine t_gdW (UF.eq (.int .i64 (((k : Nat) : Int)))) rfl rfl s iiz (by kernel_rfl) (ok_move) (by kernel_rfl) fun a w s => ?_
    refine t_gdW (UF.eq (.int .i64 (((i : Nat) : Int)))) rfl rfl s iiz (by kernel_rfl) (ok_move) (by kernel_rfl) fun a w s => ?_
    refine t_gdW (UF.eq (.int .i64 (((i + 1 : Nat) : Int)))) rfl rfl s iiz (by kernel_rfl) (ok_addI .i64 (((i : Nat) : Int)) (1) (((i + 1 : Nat) : Int)) iiz iiz (wrap64 _ _ (by omega) (by omega))) (by kernel_rfl) fun a w s => ?_
    refine t_gdW (UF.eq l) rfl rfl s iiz (by kernel_rfl) (ok_move) (by kernel_rfl) fun a w s => ?_
    refine t_gdW (UF.eq (.int .i64 ((((pvs (m) (ps)).length : Nat) : Int)))) rfl rfl s iiz (by kernel_rfl) (ok_lenB (z := 6) (Cs := pvs (m) (ps)) (by kernel_rfl) (fun v W hb h => (by rw [show _ = l from h]; exact (SF.row 6 (pvs (m) (ps))).st _ _ _ hl (s.up hb))) (fun _ => rfl)) (by kernel_rfl) fun a w s => ?_
    refine t_gdW (UF.eq (.int .i64 (((((i + 1) % ps.length) : Nat) : Int)))) rfl rfl s iiz (by kernel_rfl) (ok_remI .i64 (((i + 1 : Nat) : Int)) ((((pvs (m) (ps)).length : Nat) : Int)) ((((i + 1) % ps.length) : Nat) : Int) iiz iiz (by omega) (by rw [hlz]; exact rem_nat _ _)) (by kernel_rfl) fun a w s => ?_
    refine t_gdW (UF.eq (.bool true)) rfl rfl s iiz (by kernel_rfl) (ok_cmpI .i64 (((k : Nat) : Int)) (((((i + 1) % ps.length) : Nat) : Int)) true iiz iiz (bne_iff_ne.2 (by omega)) rfl) (by kernel_rfl) fun a w s => ?_
    refine t_gdW (UF.eq (.bool true)) rfl rfl s iiz (by kernel_rfl) (ok_pick true iiz (fun _ _ _ h => h) (fun e => by cases e)) (by kernel_rfl) fun a w s => ?_
    refine t_gd (UF.eq (.bool true)) rfl s (by kernel_rfl) (ok_pick false iiz (fun e => by cases e) (fun _ _ _ h => h)) (by kernel_rfl) fun a w s => ?_
    refine tail_end rfl ?_
    refine StS.cond s true iiz (fun e => ?_) (fun e => by cases e)
    refine wpIn_seq ?_
    refine region_go 1 ((2, .u (UF.eq (.bool false))) :: []) hmix s (by kernel_rfl)
     (oc (ok_assign) <| obs_nil) fun a w17 s => ?_
    refine tail_end rfl ?_
    refine wpIn_ret ?_
    exact StS.res1 s (t := 2) rfl (fun v W h => by rw [convB_f (fun hc => by have := hc.strict i k hi hk c4 c5; rw [c3] at this; exact absurd this (Rat.lt_irrefl))]; exact h)
  ·have hk : k = ps.length := by have h7 := of_decide_eq_false e; have h8 := hx.1; simp at h7; omega
   refine wpIn_exit ?_
   refine region_goS 2 ((12, .s ((UF.eq (.int .i64 (((i : Nat) : Int)))).toSF)) :: (13, .u (UF.eq (.int .i64 (((i + 1 : Nat) : Int))))) :: []) s (by kernel_rfl)
    (oc ok_move <| oc (ok_addI .i64 (((i : Nat) : Int)) (1) (((i + 1 : Nat) : Int)) iiz iiz (wrap64 _ _ (by omega) (by omega))) <| obs_nil) fun a w18 s => ?_
   replace s := s.drop [3]
   refine t_set (UF.eq (.int .i64 (((i + 1 : Nat) : Int)))) rfl s (by kernel_rfl) iiz fun a w s => ?_
   refine tail_end rfl ?_
   replace s := s.popB
   replace s := s.popB
   exact ⟨i + 1, ⟨hi, fun j hj k hk => by rcases Nat.lt_or_eq_of_le (Nat.le_of_lt_succ hj) with h | h; exact hxi.2 j h k hk; rw [h]; exact hx.2 k (by omega)⟩, (by show ps.length - (i + 1) < ps.length - i; omega), s.keepK _ (fmz ⟨mz3, fmz ⟨.head _, fnz⟩⟩)⟩
 ·have hi : i = ps.length := by have h7 := of_decide_eq_false e; have h8 := hx.1; simp at h7; omega
  refine wpIn_exit ?_
  refine wpIn_seq ?_
  refine region_go 4 ((63, .s ((UF.eq l).toSF)) :: (64, .s ((UF.eq (.int .i64 ((((pvs (m) (ps)).length : Nat) : Int)))).toSF)) :: (65, .s ((UF.eq (.bool (decide ((((pvs (m) (ps)).length : Nat) : Int) ≥ 3)))).toSF)) :: (2, .u (UF.eq (.bool (decide ((((pvs (m) (ps)).length : Nat) : Int) ≥ 3))))) :: []) hmix s (by kernel_rfl)
   (oc ok_move <| oc (ok_lenB (z := 6) (Cs := pvs (m) (ps)) (by kernel_rfl) (fun v W hb h => (by rw [show _ = l from h]; exact (SF.row 6 (pvs (m) (ps))).st _ _ _ hl (s.up hb))) (fun _ => rfl)) <| oc (ok_cmpI .i64 ((((pvs (m) (ps)).length : Nat) : Int)) (3) (decide ((((pvs (m) (ps)).length : Nat) : Int) ≥ 3)) iiz iiz rfl rfl) <| oc (ok_assign) <| obs_nil) fun a w19 s => ?_
  refine tail_end rfl ?_
  refine wpIn_ret ?_
  exact StS.res1 s (t := 2) rfl (fun v W h => by rw [convB_end (fun i' k h1 h2 => hx.2 i' (by omega) k h2)]; rw [List.length_map] at h; exact h)
end Go.Proofs.Wd

namespace Go.Proofs.Wd
set_option maxRecDepth 100000
set_option maxHeartbeats 1000000
open Go.RowKit Lb
theorem qsgN {p q : Rat} : qsg p q < 0 ↔ p < q := by
 unfold qsg
 rw [← rat_cmp]
 constructor
 ·intro h
  rcases Int.lt_trichotomy (p.num * q.den - q.num * p.den) 0 with g | g | g
  ·exact g
  ·rw [g] at h; exact absurd h (by decide)
  ·rw [Int.sign_eq_one_of_pos g] at h; exact absurd h (by decide)
 ·intro h; rw [Int.sign_eq_neg_one_of_neg h]; decide
theorem qsgZ {p q : Rat} (h : qsg p q = 0) : p = q := by
 unfold qsg at h
 exact (rat_same p q).1 (Int.sign_eq_zero_iff_zero.1 h)
theorem cmp_le {p q : V2} (h : cmpV p q < 0) : p.1 ≤ q.1 := by
 unfold cmpV at h
 split at h
 ·rename_i h0; rw [qsgZ h0]; exact Rat.le_refl
 ·exact Rat.le_of_lt (qsgN.1 h)
theorem cmp_ge {p q : V2} (h : ¬ cmpV p q < 0) : q.1 ≤ p.1 := by
 unfold cmpV at h
 split at h
 ·rename_i h0; rw [qsgZ h0]; exact Rat.le_refl
 ·exact Rat.not_lt.1 (fun g => h (qsgN.2 g))
abbrev hf : Rat := ((1 : Int) : Rat) / ((2 : Int) : Rat)
abbrev wd (A : List PX) (t : Nat × Nat) : V2 := ((at_ (pps A) t.2).1 - (at_ (pps A) t.1).1, ((0 : Int) : Rat))
abbrev df (A : List PX) (t : Nat × Nat) : V2 := ((at_ (pps A) t.2).1 - (at_ (pps A) t.1).1, (at_ (pps A) t.2).2 - (at_ (pps A) t.1).2)
abbrev md (A : List PX) (t : Nat × Nat) : V2 := (((at_ (pps A) t.2).1 - (at_ (pps A) t.1).1) * hf, ((at_ (pps A) t.2).2 - (at_ (pps A) t.1).2) * hf)
theorem half_eq : hf = 1 / 2 := rfl
theorem half_qb {m : Nat} (hm : 0 < m) : QB hf m := by
 rw [half_eq]
 exact QB.mono (m := 1) (show (1 / 2 : Rat).num.natAbs < BB ^ 1 ∧ (1 / 2 : Rat).den < BB ^ 1 from of_decide_eq_true (by kernel_rfl)) hm
theorem self_p {A : List PX} {W : World} {l : Value} (hl0 : (SF.row 6 (pxs A)).p l W) (hT : Tab W) : Calls Tryz.prog 6 #[l] W (Ret W (fB true).toSF) := by
 refine run_st [(UF.eq l).toSF] Tryz.func6 rfl (by kernel_rfl) ⟨rfl, trivial⟩ fun a s => ?_
 replace s := s.renew [(0, .u (UF.eq l))] (fmz ⟨.inr ⟨_, rfl, .head _⟩, fnz⟩)
 refine wpIn_seq ?_
 refine region_go 1 ((2, .u (UF.eq (.bool false))) :: []) hmix s (by kernel_rfl)
  (oc (ok_assign) <| obs_nil) fun a w1 s => ?_
 refine tail_end rfl ?_
 refine wpIn_seq ?_
 refine wpIn_seq ?_
 refine region_go 7 ((10, .s ((UF.eq l).toSF)) :: (11, .s ((UF.eq (.bool (gPt A))).toSF)) :: (12, .s ((UF.eq (.bool (gPt A))).toSF)) :: (13, .s (SF.imp ((gPt A) = false) ((UF.eq l).toSF))) :: (14, .s (SF.imp ((gPt A) = false) ((UF.eq (.bool (convB (pps A)))).toSF))) :: (15, .s (SF.imp ((gPt A) = false) ((UF.eq (.bool (!(convB (pps A))))).toSF))) :: (16, .u (UF.eq (.bool ((gPt A) || (!(convB (pps A))))))) :: []) hmix s (by kernel_rfl)
  (oc ok_move <| oc (ok_call1 wide_wide en_10 (fun u0 W hb (h0 : u0 = l) => r18great_p (L := A) (by rw [show _ = l from h0]; exact (SF.row 6 (pxs A)).st _ _ _ hl0 (s.up hb)))) <| oc ok_move <| oc (ok_guard 12 (gPt A) (by kernel_rfl) iiz (fun e => gd_imp [] ((UF.eq l).toSF) (fnz) (fun _ _ h _ => h) (by kernel_rfl) (ok_move)) (fun e W h => absurd h e)) <| oc (ok_guard 12 (gPt A) (by kernel_rfl) iiz (fun e => gd_imp [(13, (UF.eq l).toSF)] ((UF.eq (.bool (convB (pps A)))).toSF) (fmz ⟨fun v W h => imp_app (c := (gPt A) = false) (f := (UF.eq l).toSF) e h, fnz⟩) (fun _ _ h _ => h) (by kernel_rfl) (ok_call1 wide_wide en_11 (fun u0 W hb (h0 : u0 = l) => r18conv_p (m := 2) (ps := pps A) (pxs_pvs (by simpa using e) _ _ (by rw [show _ = l from h0]; exact (SF.row 6 (pxs A)).st _ _ _ hl0 (s.up hb))) (by decide) (by decide) (by have := (gPt_f (L := A) (by simpa using e)).1; simp; omega)))) (fun e W h => absurd h e)) <| oc (ok_guard 12 (gPt A) (by kernel_rfl) iiz (fun e => gd_imp [(14, (UF.eq (.bool (convB (pps A)))).toSF)] ((UF.eq (.bool (!(convB (pps A))))).toSF) (fmz ⟨fun v W h => imp_app (c := (gPt A) = false) (f := (UF.eq (.bool (convB (pps A)))).toSF) e h, fnz⟩) (fun _ _ h _ => h) (by kernel_rfl) (ok_not (convB (pps A)) iiz (fun _ => rfl))) (fun e W h => absurd h e)) <| oc (ok_pick (gPt A) iiz (fun e v W h => pick_or h e) (fun e v W h => pick_or' (imp_app e h) e)) <| obs_nil) fun a w2 s => ?_
 refine tail_end rfl ?_
 refine StS.cond s ((gPt A) || (!(convB (pps A)))) iiz (fun e => ?_) (fun e => ?_)
 ·refine wpIn_seq ?_
  replace s := s.drop [2]
  refine region_go 2 ((17, .s ((UF.eq (.bool true)).toSF)) :: (2, .u (UF.eq (.bool true))) :: []) hmix s (by kernel_rfl)
   (oc (ok_call0 wide_wide en_12 (fun W hb => wakes18 (hT.below (s.up hb)))) <| oc (ok_assign) <| obs_nil) fun a w3 s => ?_
  refine tail_end rfl ?_
  refine wpIn_ret ?_
  exact StS.res1 s (t := 2) rfl iiz
 ·rw [Bool.or_eq_false_iff] at e
  obtain ⟨eA, ec⟩ := e
  have hC : Conv (pps A) := of_convB (by simpa using ec)
  have hA := pxs_pvs eA l W hl0
  have hnA8 : (pps A).length ≤ 8 := by have := (gPt_f eA).1; simpa using this
  have hnA : (pps A).length ≤ 1000000 := by omega
  have hn0 : 0 < (pps A).length := by have := hC.three; omega
  have hqA := pvs_qb (m := 2) (by decide) hA
  have hq6 : ∀ x, x ∈ pps A → QB x.1 6 ∧ QB x.2 6 := fun x hx => ⟨(hqA x hx).1.mono (by decide), (hqA x hx).2.mono (by decide)⟩
  refine wpIn_skip ?_
  refine wpIn_seq ?_
  have so := s.old; have sg := s.gr
  refine region_goA3 (fun i => [3, 4, 5].contains i) [⟨6, 3, 30, [.bool false, .slice none 0 0, .slice none 0 0, .bool false, .slice none 0 0, .slice none 0 0], SF.newBox w2 30 (CU.len 6)⟩, ⟨7, 4, 30, [.bool false, .slice none 0 0, .slice none 0 0, .bool false, .slice none 0 0, .slice none 0 0], SF.newBox w2 30 (CU.len 6)⟩] 8 ((18, .s ((UF.eq l).toSF)) :: (19, .s (SF.ptr (CU.agg (fPV (2) ((at_ (pps A) 0)))).cf)) :: (20, .u (fPV (2) ((at_ (pps A) 0)))) :: (21, .s ((UF.eq l).toSF)) :: (22, .s ((fOp w2 (CU.agg (fPV (2) ((at_ (pps A) 0))))).toSF)) :: (23, .u (fPV (2) ((at_ (pps A) 0)))) :: (3, .s (SF.newBox w2 30 (CU.len 6))) :: (4, .s (SF.newBox w2 30 (CU.len 6))) :: []) hmix s (fmz ⟨⟨by show 6 < 8; decide, mz6, ⟨_, _, _, rfl⟩, by kernel_rfl, own_new (fun _ => rfl) rfl⟩, fmz ⟨⟨by show 7 < 8; decide, mz7, ⟨_, _, _, rfl⟩, by kernel_rfl, own_new (fun _ => rfl) rfl⟩, fnz⟩⟩) (by kernel_rfl)
   (oc ok_move <| oc (ok_indexB (z := 6) (Cs := pvs (2) (pps A)) (i := 0) (C := CU.agg (fPV (2) ((at_ (pps A) 0)))) (by kernel_rfl) (pvs_get hn0) (fun v W hb h => (by rw [show _ = l from h]; exact (SF.row 6 (pvs (2) (pps A))).st _ _ _ hA (s.up hb))) iiz) <| oc (ok_ldW (f := fPV (2) ((at_ (pps A) 0))) 6 (by kernel_rfl) (hz := pt_len _ _)) <| oc ok_move <| oc (ok_indexO (z := 6) (Cs := pvs (2) (pps A)) (i := 0) (C := CU.agg (fPV (2) ((at_ (pps A) 0)))) (by kernel_rfl) (pvs_get hn0) ((SF.row 6 (pvs (2) (pps A))).st _ _ _ hA s.below) iiz iiz) <| oc (ok_loadO (fPV (2) ((at_ (pps A) 0))) 6 (by kernel_rfl) iiz (pt_whole)) <| oc (ok_alloc (cs := [.bool false, .slice none 0 0, .slice none 0 0, .bool false, .slice none 0 0, .slice none 0 0]) (by kernel_rfl) (own_new (fun _ => rfl) rfl)) <| oc (ok_alloc (cs := [.bool false, .slice none 0 0, .slice none 0 0, .bool false, .slice none 0 0, .slice none 0 0]) (by kernel_rfl) (own_new (fun _ => rfl) rfl)) <| obs_nil)
   (fds_of (fobs_cons (fun e => absurd e (by decide)) <|
   fobs_cons (fun e => absurd e (by decide)) <|
   fobs_cons (fun e => absurd e (by decide)) <|
   fobs_cons (fun _ => fd_move) <|
   fobs_cons (fun _ => fd_indexO (z := 6) (Cs := pvs (2) (pps A)) (i := 0) (C := CU.agg (fPV (2) ((at_ (pps A) 0)))) (by kernel_rfl) (pvs_get hn0) ((SF.row 6 (pvs (2) (pps A))).st _ _ _ hA s.below) iiz iiz) <|
   fobs_cons (fun _ => fd_loadO (fPV (2) ((at_ (pps A) 0))) 6 (by kernel_rfl) iiz (pt_whole)) <|
   fobs_cons (fun e => absurd e (by decide)) <|
   fobs_cons (fun e => absurd e (by decide)) <| fobs_nil)) fun Q' hQ a w4 hg s hr hd => ?_
  obtain ⟨b3, hB3, e3, s⟩ := s.adoptA false 3 (hr (_, _) mz6) sg (fun y hy => .inl (so y hy))
  obtain ⟨b4, hB4, e4, s⟩ := s.adoptA false 4 (hr (_, _) mz7) sg (fun y hy => by rcases List.mem_cons.1 hy with rfl | hy; exact .inr (.inr fun b hb => hd _ _ (.head _) mz1 (by show 6 ≠ 7; decide) _ _ e3 hb); exact .inl (so y hy))
  refine tC_store (CU.agg (fPV (2) ((at_ (pps A) 0)))) ((fPV (2) ((at_ (pps A) 0))).toSF) rfl s hg (by kernel_rfl) rfl rfl hB3 rfl iiz iiz (pt_store) fun a w s hg => ?_
  refine tC_store (CU.agg (fPV (2) ((at_ (pps A) 0)))) ((fPV (2) ((at_ (pps A) 0))).toSF) rfl s hg (by kernel_rfl) rfl rfl hB4 rfl iiz iiz (pt_store) fun a w s hg => ?_
  refine tailC_end rfl (hQ _ _ ?_)
  refine wpIn_seq ?_
  refine wpIn_seq ?_
  refine region_go 1 ((5, .u (UF.eq (.int .i64 (0)))) :: []) hmix s (by kernel_rfl)
   (oc (ok_assign) <| obs_nil) fun a w5 s => ?_
  refine tail_end rfl ?_
  refine wpIn_block ?_
  refine st_while (fun (p : Nat × Nat × Nat) => p.1 ≤ (pps A).length ∧ p.2.1 < (pps A).length ∧ p.2.2 < (pps A).length ∧ ∀ k, k < p.1 → (at_ (pps A) p.2.1).1 ≤ (at_ (pps A) k).1 ∧ (at_ (pps A) k).1 ≤ (at_ (pps A) p.2.2).1) (fun p => [(0, .u (UF.eq l)), (5, .u (UF.eq (.int .i64 (((p.1 : Nat) : Int)))))]) (fun p => [⟨4, 30, CU.agg (fPV 2 (at_ (pps A) p.2.2)), b4, false⟩, ⟨3, 30, CU.agg (fPV 2 (at_ (pps A) p.2.1)), b3, false⟩]) (fun _ => []) (fun p => (pps A).length - p.1) (0, 0, 0) ⟨Nat.zero_le _, hn0, hn0, fun k hk => absurd hk (Nat.not_lt_zero _)⟩ (s.keepK _ (fmz ⟨mz5, fmz ⟨.head _, fnz⟩⟩)) fun p a w hx s => ?_
  refine wpIn_seq ?_
  refine wpIn_seq ?_
  refine region_go 4 ((24, .s ((UF.eq (.int .i64 (((p.1 : Nat) : Int)))).toSF)) :: (25, .s ((UF.eq l).toSF)) :: (26, .s ((UF.eq (.int .i64 ((((pvs (2) (pps A)).length : Nat) : Int)))).toSF)) :: (27, .u (UF.eq (.bool (decide (((p.1 : Nat) : Int) < (((pvs (2) (pps A)).length : Nat) : Int)))))) :: []) hmix s (by kernel_rfl)
   (oc ok_move <| oc ok_move <| oc (ok_lenB (z := 6) (Cs := pvs (2) (pps A)) (by kernel_rfl) (fun v W hb h => (by rw [show _ = l from h]; exact (SF.row 6 (pvs (2) (pps A))).st _ _ _ hA (s.up hb))) (fun _ => rfl)) <| oc (ok_cmpI .i64 (((p.1 : Nat) : Int)) ((((pvs (2) (pps A)).length : Nat) : Int)) (decide (((p.1 : Nat) : Int) < (((pvs (2) (pps A)).length : Nat) : Int))) iiz iiz rfl rfl) <| obs_nil) fun a w6 s => ?_
  refine tail_end rfl ?_
  refine StS.cond s (decide (((p.1 : Nat) : Int) < (((pvs (2) (pps A)).length : Nat) : Int))) iiz (fun e => ?_) (fun e => ?_)
  ·have hk : p.1 < (pps A).length := by have := of_decide_eq_true e; simp at this; simpa using this
   refine wpIn_skip ?_
   refine wpIn_seq ?_
   refine wpIn_block ?_
   refine wpIn_seq ?_
   refine wpIn_seq ?_
   refine region_go 7 ((30, .s ((UF.eq l).toSF)) :: (31, .s ((UF.eq (.int .i64 (((p.1 : Nat) : Int)))).toSF)) :: (32, .s (SF.ptr (CU.agg (fPV (2) ((at_ (pps A) p.1)))).cf)) :: (33, .s ((fPV (2) ((at_ (pps A) p.1))).toSF)) :: (34, .s ((fPV (2) ((at_ (pps A) p.2.1))).toSF)) :: (35, .s ((UF.eq (.int .i64 (cmpV (at_ (pps A) p.1) (at_ (pps A) p.2.1)))).toSF)) :: (36, .u (UF.eq (.bool (decide (cmpV (at_ (pps A) p.1) (at_ (pps A) p.2.1) < 0))))) :: []) hmix s (by kernel_rfl)
    (oc ok_move <| oc ok_move <| oc (ok_indexB (z := 6) (Cs := pvs (2) (pps A)) (i := p.1) (C := CU.agg (fPV (2) ((at_ (pps A) p.1)))) (by kernel_rfl) (pvs_get hk) (fun v W hb h => (by rw [show _ = l from h]; exact (SF.row 6 (pvs (2) (pps A))).st _ _ _ hA (s.up hb))) iiz) <| oc (ok_ldW (f := fPV (2) ((at_ (pps A) p.1))) 6 (by kernel_rfl) (hz := pt_len _ _)) <| oc (ok_ldW (f := fPV (2) ((at_ (pps A) p.2.1))) 6 (by kernel_rfl) (hz := pt_len _ _)) <| oc (ok_call2 wide_wide en_31 (fun u0 u1 W hb (h0 : (fPV (2) ((at_ (pps A) p.1))).p u0 W) (h1 : (fPV (2) ((at_ (pps A) p.2.1))).p u1 W) => r8cmp_p (m := 2) (p := (at_ (pps A) p.1)) (q := (at_ (pps A) p.2.1)) h0 h1 (by decide) (by decide))) <| oc (ok_cmpI .i64 (cmpV (at_ (pps A) p.1) (at_ (pps A) p.2.1)) (0) (decide (cmpV (at_ (pps A) p.1) (at_ (pps A) p.2.1) < 0)) iiz iiz rfl rfl) <| obs_nil) fun a w7 s => ?_
   refine tail_end rfl ?_
   refine StS.cond s (decide (cmpV (at_ (pps A) p.1) (at_ (pps A) p.2.1) < 0)) iiz (fun e => ?_) (fun e => ?_)
   ·have c1 := cmp_le (of_decide_eq_true e)
    refine region_go 4 ((37, .s ((UF.eq l).toSF)) :: (38, .s ((UF.eq (.int .i64 (((p.1 : Nat) : Int)))).toSF)) :: (39, .s (SF.ptr (CU.agg (fPV (2) ((at_ (pps A) p.1)))).cf)) :: (40, .u (fPV (2) ((at_ (pps A) p.1)))) :: []) hmix s (by kernel_rfl)
     (oc ok_move <| oc ok_move <| oc (ok_indexB (z := 6) (Cs := pvs (2) (pps A)) (i := p.1) (C := CU.agg (fPV (2) ((at_ (pps A) p.1)))) (by kernel_rfl) (pvs_get hk) (fun v W hb h => (by rw [show _ = l from h]; exact (SF.row 6 (pvs (2) (pps A))).st _ _ _ hA (s.up hb))) iiz) <| oc (ok_ldW (f := fPV (2) ((at_ (pps A) p.1))) 6 (by kernel_rfl) (hz := pt_len _ _)) <| obs_nil) fun a w8 s => ?_
    refine t_store (CU.agg (fPV (2) ((at_ (pps A) p.1)))) ((fPV (2) ((at_ (pps A) p.1))).toSF) rfl s (by kernel_rfl) rfl rfl rfl (pt_len _ _) iiz (pt_store) fun a w s => ?_
    refine tail_end rfl ?_
    refine wpIn_seq ?_
    refine region_go 7 ((41, .s ((fPV (2) ((at_ (pps A) p.2.2))).toSF)) :: (42, .s ((UF.eq l).toSF)) :: (43, .s ((UF.eq (.int .i64 (((p.1 : Nat) : Int)))).toSF)) :: (44, .s (SF.ptr (CU.agg (fPV (2) ((at_ (pps A) p.1)))).cf)) :: (45, .s ((fPV (2) ((at_ (pps A) p.1))).toSF)) :: (46, .s ((UF.eq (.int .i64 (cmpV (at_ (pps A) p.2.2) (at_ (pps A) p.1)))).toSF)) :: (47, .u (UF.eq (.bool (decide (cmpV (at_ (pps A) p.2.2) (at_ (pps A) p.1) < 0))))) :: []) hmix s (by kernel_rfl)
     (oc (ok_ldW (f := fPV (2) ((at_ (pps A) p.2.2))) 6 (by kernel_rfl) (hz := pt_len _ _)) <| oc ok_move <| oc ok_move <| oc (ok_indexB (z := 6) (Cs := pvs (2) (pps A)) (i := p.1) (C := CU.agg (fPV (2) ((at_ (pps A) p.1)))) (by kernel_rfl) (pvs_get hk) (fun v W hb h => (by rw [show _ = l from h]; exact (SF.row 6 (pvs (2) (pps A))).st _ _ _ hA (s.up hb))) iiz) <| oc (ok_ldW (f := fPV (2) ((at_ (pps A) p.1))) 6 (by kernel_rfl) (hz := pt_len _ _)) <| oc (ok_call2 wide_wide en_31 (fun u0 u1 W hb (h0 : (fPV (2) ((at_ (pps A) p.2.2))).p u0 W) (h1 : (fPV (2) ((at_ (pps A) p.1))).p u1 W) => r8cmp_p (m := 2) (p := (at_ (pps A) p.2.2)) (q := (at_ (pps A) p.1)) h0 h1 (by decide) (by decide))) <| oc (ok_cmpI .i64 (cmpV (at_ (pps A) p.2.2) (at_ (pps A) p.1)) (0) (decide (cmpV (at_ (pps A) p.2.2) (at_ (pps A) p.1) < 0)) iiz iiz rfl rfl) <| obs_nil) fun a w9 s => ?_
    refine tail_end rfl ?_
    refine StS.cond s (decide (cmpV (at_ (pps A) p.2.2) (at_ (pps A) p.1) < 0)) iiz (fun e => ?_) (fun e => ?_)
    ·have c2 := cmp_le (of_decide_eq_true e)
     refine region_go 4 ((48, .s ((UF.eq l).toSF)) :: (49, .s ((UF.eq (.int .i64 (((p.1 : Nat) : Int)))).toSF)) :: (50, .s (SF.ptr (CU.agg (fPV (2) ((at_ (pps A) p.1)))).cf)) :: (51, .u (fPV (2) ((at_ (pps A) p.1)))) :: []) hmix s (by kernel_rfl)
      (oc ok_move <| oc ok_move <| oc (ok_indexB (z := 6) (Cs := pvs (2) (pps A)) (i := p.1) (C := CU.agg (fPV (2) ((at_ (pps A) p.1)))) (by kernel_rfl) (pvs_get hk) (fun v W hb h => (by rw [show _ = l from h]; exact (SF.row 6 (pvs (2) (pps A))).st _ _ _ hA (s.up hb))) iiz) <| oc (ok_ldW (f := fPV (2) ((at_ (pps A) p.1))) 6 (by kernel_rfl) (hz := pt_len _ _)) <| obs_nil) fun a w10 s => ?_
     refine t_store (CU.agg (fPV (2) ((at_ (pps A) p.1)))) ((fPV (2) ((at_ (pps A) p.1))).toSF) rfl s (by kernel_rfl) rfl rfl rfl (pt_len _ _) iiz (pt_store) fun a w s => ?_
     refine tail_end rfl ?_
     refine region_goS 2 ((28, .s ((UF.eq (.int .i64 (((p.1 : Nat) : Int)))).toSF)) :: (29, .u (UF.eq (.int .i64 (((p.1 + 1 : Nat) : Int))))) :: []) s (by kernel_rfl)
      (oc ok_move <| oc (ok_addI .i64 (((p.1 : Nat) : Int)) (1) (((p.1 + 1 : Nat) : Int)) iiz iiz (wrap64 _ _ (by omega) (by omega))) <| obs_nil) fun a w11 s => ?_
     replace s := s.drop [5]
     refine t_set (UF.eq (.int .i64 (((p.1 + 1 : Nat) : Int)))) rfl s (by kernel_rfl) iiz fun a w s => ?_
     refine tail_end rfl ?_
     exact ⟨(p.1 + 1, p.1, p.1), ⟨hk, hk, hk, fun j hj => by rcases Nat.lt_or_eq_of_le (Nat.le_of_lt_succ hj) with h | h; exact ⟨Rat.le_trans c1 (hx.2.2.2 j h).1, Rat.le_trans (hx.2.2.2 j h).2 c2⟩; rw [h]; exact ⟨Rat.le_refl, Rat.le_refl⟩⟩, (by show (pps A).length - (p.1 + 1) < (pps A).length - p.1; omega), s.keepK _ (fmz ⟨mz7, fmz ⟨.head _, fnz⟩⟩)⟩
    ·have c2 := cmp_ge (of_decide_eq_false e)
     refine wpIn_skip ?_
     refine region_goS 2 ((28, .s ((UF.eq (.int .i64 (((p.1 : Nat) : Int)))).toSF)) :: (29, .u (UF.eq (.int .i64 (((p.1 + 1 : Nat) : Int))))) :: []) s (by kernel_rfl)
      (oc ok_move <| oc (ok_addI .i64 (((p.1 : Nat) : Int)) (1) (((p.1 + 1 : Nat) : Int)) iiz iiz (wrap64 _ _ (by omega) (by omega))) <| obs_nil) fun a w12 s => ?_
     replace s := s.drop [5]
     refine t_set (UF.eq (.int .i64 (((p.1 + 1 : Nat) : Int)))) rfl s (by kernel_rfl) iiz fun a w s => ?_
     refine tail_end rfl ?_
     exact ⟨(p.1 + 1, p.1, p.2.2), ⟨hk, hk, hx.2.2.1, fun j hj => by rcases Nat.lt_or_eq_of_le (Nat.le_of_lt_succ hj) with h | h; exact ⟨Rat.le_trans c1 (hx.2.2.2 j h).1, (hx.2.2.2 j h).2⟩; rw [h]; exact ⟨Rat.le_refl, c2⟩⟩, (by show (pps A).length - (p.1 + 1) < (pps A).length - p.1; omega), s.keepK _ (fmz ⟨mz6, fmz ⟨.head _, fnz⟩⟩)⟩
   ·have c1 := cmp_ge (of_decide_eq_false e)
    refine wpIn_skip ?_
    refine wpIn_seq ?_
    refine region_go 7 ((41, .s ((fPV (2) ((at_ (pps A) p.2.2))).toSF)) :: (42, .s ((UF.eq l).toSF)) :: (43, .s ((UF.eq (.int .i64 (((p.1 : Nat) : Int)))).toSF)) :: (44, .s (SF.ptr (CU.agg (fPV (2) ((at_ (pps A) p.1)))).cf)) :: (45, .s ((fPV (2) ((at_ (pps A) p.1))).toSF)) :: (46, .s ((UF.eq (.int .i64 (cmpV (at_ (pps A) p.2.2) (at_ (pps A) p.1)))).toSF)) :: (47, .u (UF.eq (.bool (decide (cmpV (at_ (pps A) p.2.2) (at_ (pps A) p.1) < 0))))) :: []) hmix s (by kernel_rfl)
     (oc (ok_ldW (f := fPV (2) ((at_ (pps A) p.2.2))) 6 (by kernel_rfl) (hz := pt_len _ _)) <| oc ok_move <| oc ok_move <| oc (ok_indexB (z := 6) (Cs := pvs (2) (pps A)) (i := p.1) (C := CU.agg (fPV (2) ((at_ (pps A) p.1)))) (by kernel_rfl) (pvs_get hk) (fun v W hb h => (by rw [show _ = l from h]; exact (SF.row 6 (pvs (2) (pps A))).st _ _ _ hA (s.up hb))) iiz) <| oc (ok_ldW (f := fPV (2) ((at_ (pps A) p.1))) 6 (by kernel_rfl) (hz := pt_len _ _)) <| oc (ok_call2 wide_wide en_31 (fun u0 u1 W hb (h0 : (fPV (2) ((at_ (pps A) p.2.2))).p u0 W) (h1 : (fPV (2) ((at_ (pps A) p.1))).p u1 W) => r8cmp_p (m := 2) (p := (at_ (pps A) p.2.2)) (q := (at_ (pps A) p.1)) h0 h1 (by decide) (by decide))) <| oc (ok_cmpI .i64 (cmpV (at_ (pps A) p.2.2) (at_ (pps A) p.1)) (0) (decide (cmpV (at_ (pps A) p.2.2) (at_ (pps A) p.1) < 0)) iiz iiz rfl rfl) <| obs_nil) fun a w13 s => ?_
    refine tail_end rfl ?_
    refine StS.cond s (decide (cmpV (at_ (pps A) p.2.2) (at_ (pps A) p.1) < 0)) iiz (fun e => ?_) (fun e => ?_)
    ·have c2 := cmp_le (of_decide_eq_true e)
     refine region_go 4 ((48, .s ((UF.eq l).toSF)) :: (49, .s ((UF.eq (.int .i64 (((p.1 : Nat) : Int)))).toSF)) :: (50, .s (SF.ptr (CU.agg (fPV (2) ((at_ (pps A) p.1)))).cf)) :: (51, .u (fPV (2) ((at_ (pps A) p.1)))) :: []) hmix s (by kernel_rfl)
      (oc ok_move <| oc ok_move <| oc (ok_indexB (z := 6) (Cs := pvs (2) (pps A)) (i := p.1) (C := CU.agg (fPV (2) ((at_ (pps A) p.1)))) (by kernel_rfl) (pvs_get hk) (fun v W hb h => (by rw [show _ = l from h]; exact (SF.row 6 (pvs (2) (pps A))).st _ _ _ hA (s.up hb))) iiz) <| oc (ok_ldW (f := fPV (2) ((at_ (pps A) p.1))) 6 (by kernel_rfl) (hz := pt_len _ _)) <| obs_nil) fun a w14 s => ?_
     refine t_store (CU.agg (fPV (2) ((at_ (pps A) p.1)))) ((fPV (2) ((at_ (pps A) p.1))).toSF) rfl s (by kernel_rfl) rfl rfl rfl (pt_len _ _) iiz (pt_store) fun a w s => ?_
     refine tail_end rfl ?_
     refine region_goS 2 ((28, .s ((UF.eq (.int .i64 (((p.1 : Nat) : Int)))).toSF)) :: (29, .u (UF.eq (.int .i64 (((p.1 + 1 : Nat) : Int))))) :: []) s (by kernel_rfl)
      (oc ok_move <| oc (ok_addI .i64 (((p.1 : Nat) : Int)) (1) (((p.1 + 1 : Nat) : Int)) iiz iiz (wrap64 _ _ (by omega) (by omega))) <| obs_nil) fun a w15 s => ?_
     replace s := s.drop [5]
     refine t_set (UF.eq (.int .i64 (((p.1 + 1 : Nat) : Int)))) rfl s (by kernel_rfl) iiz fun a w s => ?_
     refine tail_end rfl ?_
     exact ⟨(p.1 + 1, p.2.1, p.1), ⟨hk, hx.2.1, hk, fun j hj => by rcases Nat.lt_or_eq_of_le (Nat.le_of_lt_succ hj) with h | h; exact ⟨(hx.2.2.2 j h).1, Rat.le_trans (hx.2.2.2 j h).2 c2⟩; rw [h]; exact ⟨c1, Rat.le_refl⟩⟩, (by show (pps A).length - (p.1 + 1) < (pps A).length - p.1; omega), s.keepK _ (fmz ⟨mz6, fmz ⟨.head _, fnz⟩⟩)⟩
    ·have c2 := cmp_ge (of_decide_eq_false e)
     refine wpIn_skip ?_
     refine region_goS 2 ((28, .s ((UF.eq (.int .i64 (((p.1 : Nat) : Int)))).toSF)) :: (29, .u (UF.eq (.int .i64 (((p.1 + 1 : Nat) : Int))))) :: []) s (by kernel_rfl)
      (oc ok_move <| oc (ok_addI .i64 (((p.1 : Nat) : Int)) (1) (((p.1 + 1 : Nat) : Int)) iiz iiz (wrap64 _ _ (by omega) (by omega))) <| obs_nil) fun a w16 s => ?_
     replace s := s.drop [5]
     refine t_set (UF.eq (.int .i64 (((p.1 + 1 : Nat) : Int)))) rfl s (by kernel_rfl) iiz fun a w s => ?_
     refine tail_end rfl ?_
     exact ⟨(p.1 + 1, p.2.1, p.2.2), ⟨hk, hx.2.1, hx.2.2.1, fun j hj => by rcases Nat.lt_or_eq_of_le (Nat.le_of_lt_succ hj) with h | h; exact ⟨(hx.2.2.2 j h).1, (hx.2.2.2 j h).2⟩; rw [h]; exact ⟨c1, c2⟩⟩, (by show (pps A).length - (p.1 + 1) < (pps A).length - p.1; omega), s.keepK _ (fmz ⟨mz5, fmz ⟨.head _, fnz⟩⟩)⟩
  ·have hk : p.1 = (pps A).length := by have h7 := of_decide_eq_false e; have h8 := hx.1; simp at h7; simp; simp at h8; omega
   have hlq := hqA _ (at_mem hx.2.1)
   have hhq := hqA _ (at_mem hx.2.2.1)
   have hdq : QB ((df A p.2) : V2).1 6 ∧ QB ((df A p.2) : V2).2 6 := ⟨(hhq.1.sub hlq.1).mono (by decide), (hhq.2.sub hlq.2).mono (by decide)⟩
   have hwq : QB ((wd A p.2) : V2).1 6 ∧ QB ((wd A p.2) : V2).2 6 := ⟨hdq.1, (qbz (z := 0) (by decide)).mono (by decide)⟩
   have hnq : QB (negV (wd A p.2)).1 6 ∧ QB (negV (wd A p.2)).2 6 := ⟨hwq.1.neg, hwq.2.neg⟩
   have hmq : QB ((md A p.2) : V2).1 6 ∧ QB ((md A p.2) : V2).2 6 := ⟨((hhq.1.sub hlq.1).mul (half_qb (m := 1) (by decide))).mono (by decide), ((hhq.2.sub hlq.2).mul (half_qb (m := 1) (by decide))).mono (by decide)⟩
   have hs0 := self_not hC
   have hs1 : polysB (pps A) (shiftV (pps A) (wd A p.2)) = true := self_wide hC (fun k hk' => (hx.2.2.2 k (by omega)).1) (fun k hk' => (hx.2.2.2 k (by omega)).2)
   have hs2 : polysB (shiftV (pps A) (negV (wd A p.2))) (pps A) = true := self_wide' hC (fun k hk' => (hx.2.2.2 k (by omega)).1) (fun k hk' => (hx.2.2.2 k (by omega)).2)
   have hs3 : polysB (pps A) (shiftV (pps A) (md A p.2)) = false := self_mid hC hx.2.1 hx.2.2.1
   refine wpIn_exit ?_
   refine wpIn_seq ?_
   refine region_go 7 ((52, .s (SF.ptr ((CU.agg (fPV (2) ((at_ (pps A) p.2.2)))).cf.at 0))) :: (53, .s ((fRV (2) (((at_ (pps A) p.2.2)).1)).toSF)) :: (54, .s (SF.ptr ((CU.agg (fPV (2) ((at_ (pps A) p.2.1)))).cf.at 0))) :: (55, .s ((fRV (2) (((at_ (pps A) p.2.1)).1)).toSF)) :: (56, .s ((fQN ((((at_ (pps A) p.2.2)).1 - ((at_ (pps A) p.2.1)).1))).toSF)) :: (57, .s ((fQN (((0 : Int) : Rat))).toSF)) :: (58, .u (fPN ((wd A p.2)))) :: []) hmix s (by kernel_rfl)
    (oc (ok_fld (C := (CU.agg (fPV (2) ((at_ (pps A) p.2.2)))).cf) 0 (by kernel_rfl)) <| oc (ok_ldA (C := (CU.agg (fPV (2) ((at_ (pps A) p.2.2)))).cf) (k := 0) 3 (by kernel_rfl) (h := pt_x)) <| oc (ok_fld (C := (CU.agg (fPV (2) ((at_ (pps A) p.2.1)))).cf) 0 (by kernel_rfl)) <| oc (ok_ldA (C := (CU.agg (fPV (2) ((at_ (pps A) p.2.1)))).cf) (k := 0) 3 (by kernel_rfl) (h := pt_x)) <| oc (ok_call2 wide_wide en_32 (fun u0 u1 W hb (h0 : RVp (2) (((at_ (pps A) p.2.2)).1) u0 W) (h1 : RVp (2) (((at_ (pps A) p.2.1)).1) u1 W) => r7sub_q (m := 2) h0 h1 (by decide) (by decide))) <| oc (ok_call1 wide_wide en_20 (fun u0 W hb (h0 : u0 = .int .i64 (0)) => r7of_w (0) h0 (by decide))) <| oc (ok_build2 (fun u v W (hu : QNp ((((at_ (pps A) p.2.2)).1 - ((at_ (pps A) p.2.1)).1)) u W) (hv : QNp (((0 : Int) : Rat)) v W) => b_pt (ratU_qn _) (ratU_qn _) hu hv)) <| obs_nil) fun a w17 s => ?_
   refine t_alloc (CU.len 6) (cs := [.bool false, .slice none 0 0, .slice none 0 0, .bool false, .slice none 0 0, .slice none 0 0]) (by kernel_rfl) rfl s (by kernel_rfl) (fun W => rfl) rfl fun b6 a w s => ?_
   refine t_store (CU.agg (fPN ((wd A p.2)))) ((fPN ((wd A p.2))).toSF) rfl s (by kernel_rfl) rfl rfl rfl iiz iiz (pt_store) fun a w s => ?_
   refine tail_end rfl ?_
   refine wpIn_seq ?_
   refine region_go 6 ((60, .s ((fQN (((1 : Int) : Rat))).toSF)) :: (61, .s ((fQN (((2 : Int) : Rat))).toSF)) :: (62, .s ((fTup2 (fQN (hf)) (UF.eq (.int .i64 ((if ((2 : Int) : Rat) = 0 then 30 else 0))))).toSF)) :: (59, .s ((fTup2 (fQN (hf)) (UF.eq (.int .i64 ((if ((2 : Int) : Rat) = 0 then 30 else 0))))).toSF)) :: (63, .u (fQN (hf))) :: (64, .u (UF.eq (.int .i64 ((if ((2 : Int) : Rat) = 0 then 30 else 0))))) :: []) hmix s (by kernel_rfl)
    (oc (ok_call1 wide_wide en_20 (fun u0 W hb (h0 : u0 = .int .i64 (1)) => r7of_w (1) h0 (by decide))) <| oc (ok_call1 wide_wide en_20 (fun u0 W hb (h0 : u0 = .int .i64 (2)) => r7of_w (2) h0 (by decide))) <| oc (ok_call2 wide_wide en_19 (fun u0 u1 W hb (h0 : QNp (((1 : Int) : Rat)) u0 W) (h1 : QNp (((2 : Int) : Rat)) u1 W) => r7quo_q (m := 1) (QNp.rv h0 (qbz (z := 1) (by decide))) (QNp.rv h1 (qbz (z := 2) (by decide))) (by decide) (by decide))) <| oc ok_move <| oc (ok_ext20 (A := (fQN (hf)).toSF) (B := (UF.eq (.int .i64 ((if ((2 : Int) : Rat) = 0 then 30 else 0)))).toSF) iiz) <| oc (ok_ext21 (A := (fQN (hf)).toSF) (B := (UF.eq (.int .i64 ((if ((2 : Int) : Rat) = 0 then 30 else 0)))).toSF) iiz) <| obs_nil) fun a w18 s => ?_
   refine t_alloc (CU.len 3) (cs := [.bool false, .slice none 0 0, .slice none 0 0]) (by kernel_rfl) rfl s (by kernel_rfl) (fun W => rfl) rfl fun b7 a w s => ?_
   refine t_store (CU.agg (fQN (hf))) ((fQN (hf)).toSF) rfl s (by kernel_rfl) rfl rfl rfl iiz iiz (qn_store) fun a w s => ?_
   refine t_set (UF.eq (.int .i64 ((if ((2 : Int) : Rat) = 0 then 30 else 0)))) rfl s (by kernel_rfl) iiz fun a w s => ?_
   refine tail_end rfl ?_
   refine wpIn_seq ?_
   have so := s.old; have sg := s.gr
   refine region_goA2 (fun i => [].contains i) [⟨5, 9, 30, [.bool false, .slice none 0 0, .slice none 0 0, .bool false, .slice none 0 0, .slice none 0 0], SF.newBox w 30 (CU.len 6)⟩] 6 ((65, .s ((fPV (2) ((at_ (pps A) p.2.2))).toSF)) :: (66, .s ((fPV (2) ((at_ (pps A) p.2.1))).toSF)) :: (67, .s ((fPN ((df A p.2))).toSF)) :: (68, .s ((fQN (hf)).toSF)) :: (69, .u (fPN ((md A p.2)))) :: (9, .s (SF.newBox w 30 (CU.len 6))) :: []) hmix s (fmz ⟨⟨by show 5 < 6; decide, mz5, ⟨_, _, _, rfl⟩, by kernel_rfl, own_new (fun _ => rfl) rfl⟩, fnz⟩) (by kernel_rfl)
    (oc (ok_ldW (f := fPV (2) ((at_ (pps A) p.2.2))) 6 (by kernel_rfl) (hz := pt_len _ _)) <| oc (ok_ldW (f := fPV (2) ((at_ (pps A) p.2.1))) 6 (by kernel_rfl) (hz := pt_len _ _)) <| oc (ok_call2 wide_wide en_33 (fun u0 u1 W hb (h0 : (fPV (2) ((at_ (pps A) p.2.2))).p u0 W) (h1 : (fPV (2) ((at_ (pps A) p.2.1))).p u1 W) => r8sub_p (m := 2) (p := (at_ (pps A) p.2.2)) (q := (at_ (pps A) p.2.1)) h0 h1 (by decide) (by decide))) <| oc (ok_ldW (f := fQN (hf)) 3 (by kernel_rfl) (hz := qn_len _)) <| oc (ok_call2 wide_wide en_21 (fun u0 u1 W hb (h0 : (fPN ((df A p.2))).p u0 W) (h1 : QNp (hf) u1 W) => r8scale_p (m := 6) (p := (df A p.2)) (t := hf) (pn_pv (p := (df A p.2)) (m := 6) hdq.1 hdq.2 h0) (QNp.rv h1 (half_qb (by decide))) hdq (half_qb (by decide)) (by decide))) <| oc (ok_alloc (cs := [.bool false, .slice none 0 0, .slice none 0 0, .bool false, .slice none 0 0, .slice none 0 0]) (by kernel_rfl) (own_new (fun _ => rfl) rfl)) <| obs_nil) fun Q' hQ a w19 s hr hd => ?_
   obtain ⟨b9, hB9, e9, s⟩ := s.adoptA false 9 (hr (_, _) mz5) sg (fun y hy => .inl (so y hy))
   refine t_store (CU.agg (fPN ((md A p.2)))) ((fPN ((md A p.2))).toSF) rfl s (by kernel_rfl) rfl rfl rfl iiz iiz (pt_store) fun a w s => ?_
   refine tail_end rfl (hQ _ _ ?_)
   refine wpIn_seq ?_
   refine wpIn_seq ?_
   refine region_go 20 ((70, .s ((UF.eq l).toSF)) :: (71, .s ((UF.eq l).toSF)) :: (72, .s ((UF.eq (.bool false)).toSF)) :: (73, .s ((UF.eq (.bool false)).toSF)) :: (74, .s ((UF.eq l).toSF)) :: (75, .s ((UF.eq l).toSF)) :: (76, .s ((fPN ((wd A p.2))).toSF)) :: (77, .s (SF.row 6 (pns (shiftV (pps A) (wd A p.2))))) :: (78, .s ((UF.eq (.bool true)).toSF)) :: (79, .s ((UF.eq (.bool false)).toSF)) :: (80, .s ((UF.eq (.bool false)).toSF)) :: (81, .s ((UF.eq (.bool false)).toSF)) :: (82, .s ((UF.eq l).toSF)) :: (83, .s ((fPN ((wd A p.2))).toSF)) :: (84, .s ((fPN ((negV (wd A p.2)))).toSF)) :: (85, .s (SF.row 6 (pns (shiftV (pps A) (negV (wd A p.2)))))) :: (86, .s ((UF.eq l).toSF)) :: (87, .s ((UF.eq (.bool true)).toSF)) :: (88, .s ((UF.eq (.bool false)).toSF)) :: (89, .u (UF.eq (.bool false))) :: []) hmix s (by kernel_rfl)
    (oc ok_move <| oc ok_move <| oc (ok_call2 wide_wide en_13 (fun u0 u1 W hb (h0 : u0 = l) (h1 : u1 = l) => (apolys_p (m := 13) (ps := pps A) (qs := pps A) (pvs_mono (m := 2) (m' := 13) (by decide) _ _ (by rw [show _ = l from h0]; exact (SF.row 6 (pvs (2) (pps A))).st _ _ _ hA (s.up hb))) (pvs_mono (m := 2) (m' := 13) (by decide) _ _ (by rw [show _ = l from h1]; exact (SF.row 6 (pvs (2) (pps A))).st _ _ _ hA (s.up hb))) (by decide) (by decide) hnA hnA (hT.below (s.up hb))).mono (Ret.to (fun v W h => by rw [hs0] at h; exact h)))) <| oc ok_move <| oc (ok_guard 73 false (by kernel_rfl) iiz (fun _ => ok_move) (fun e => absurd rfl e)) <| oc (ok_guard 73 false (by kernel_rfl) iiz (fun _ => ok_move) (fun e => absurd rfl e)) <| oc (ok_guard 73 false (by kernel_rfl) iiz (fun _ => ok_ldW (f := fPN ((wd A p.2))) 6 (by kernel_rfl) (hz := pt_len _ _)) (fun e => absurd rfl e)) <| oc (ok_guard 73 false (by kernel_rfl) iiz (fun _ => ok_call2 wide_wide en_22 (fun u0 u1 W hb (h0 : u0 = l) (h1 : (fPN ((wd A p.2))).p u1 W) => (ashift_p (m := 6) (t := (wd A p.2)) (ps := pps A) (pvs_mono (m := 2) (by decide) _ _ (by rw [show _ = l from h0]; exact (SF.row 6 (pvs (2) (pps A))).st _ _ _ hA (s.up hb))) (pn_pv (p := (wd A p.2)) (m := 6) hwq.1 hwq.2 h1) (by decide) (by decide) hnA (hT.below (s.up hb))).mono (Ret.to newRow_row))) (fun e => absurd rfl e)) <| oc (ok_guard 73 false (by kernel_rfl) iiz (fun _ => ok_call2 wide_wide en_13 (fun u0 u1 W hb (h0 : u0 = l) (h1 : (SF.row 6 (pns (shiftV (pps A) (wd A p.2)))).p u1 W) => (apolys_p (m := 13) (ps := pps A) (qs := shiftV (pps A) (wd A p.2)) (pvs_mono (m := 2) (m' := 13) (by decide) _ _ (by rw [show _ = l from h0]; exact (SF.row 6 (pvs (2) (pps A))).st _ _ _ hA (s.up hb))) (pns_pvs (m := 13) (shift_qb (m := 6) hq6 hwq) _ _ h1) (by decide) (by decide) hnA (by rw [shift_len]; exact hnA) (hT.below (s.up hb))).mono (Ret.to (fun v W h => by rw [hs1] at h; exact h)))) (fun e => absurd rfl e)) <| oc (ok_guard 73 false (by kernel_rfl) iiz (fun _ => ok_not (true) iiz (fun _ => rfl)) (fun e => absurd rfl e)) <| oc (ok_pick false iiz (fun e => by cases e) (fun _ _ _ h => h)) <| oc ok_move <| oc (ok_guard 81 false (by kernel_rfl) iiz (fun _ => ok_move) (fun e => absurd rfl e)) <| oc (ok_guard 81 false (by kernel_rfl) iiz (fun _ => ok_ldW (f := fPN ((wd A p.2))) 6 (by kernel_rfl) (hz := pt_len _ _)) (fun e => absurd rfl e)) <| oc (ok_guard 81 false (by kernel_rfl) iiz (fun _ => ok_call1 wide_wide en_24 (fun u0 W hb (h0 : (fPN ((wd A p.2))).p u0 W) => r8neg_p (m := 6) (p := (wd A p.2)) (pn_pv (p := (wd A p.2)) (m := 6) hwq.1 hwq.2 h0) (by decide) (by decide))) (fun e => absurd rfl e)) <| oc (ok_guard 81 false (by kernel_rfl) iiz (fun _ => ok_call2 wide_wide en_22 (fun u0 u1 W hb (h0 : u0 = l) (h1 : (fPN ((negV (wd A p.2)))).p u1 W) => (ashift_p (m := 6) (t := (negV (wd A p.2))) (ps := pps A) (pvs_mono (m := 2) (by decide) _ _ (by rw [show _ = l from h0]; exact (SF.row 6 (pvs (2) (pps A))).st _ _ _ hA (s.up hb))) (pn_pv (p := (negV (wd A p.2))) (m := 6) hnq.1 hnq.2 h1) (by decide) (by decide) hnA (hT.below (s.up hb))).mono (Ret.to newRow_row))) (fun e => absurd rfl e)) <| oc (ok_guard 81 false (by kernel_rfl) iiz (fun _ => ok_move) (fun e => absurd rfl e)) <| oc (ok_guard 81 false (by kernel_rfl) iiz (fun _ => ok_call2 wide_wide en_13 (fun u0 u1 W hb (h0 : (SF.row 6 (pns (shiftV (pps A) (negV (wd A p.2))))).p u0 W) (h1 : u1 = l) => (apolys_p (m := 13) (ps := shiftV (pps A) (negV (wd A p.2))) (qs := pps A) (pns_pvs (m := 13) (shift_qb (m := 6) hq6 hnq) _ _ h0) (pvs_mono (m := 2) (m' := 13) (by decide) _ _ (by rw [show _ = l from h1]; exact (SF.row 6 (pvs (2) (pps A))).st _ _ _ hA (s.up hb))) (by decide) (by decide) (by rw [shift_len]; exact hnA) hnA (hT.below (s.up hb))).mono (Ret.to (fun v W h => by rw [hs2] at h; exact h)))) (fun e => absurd rfl e)) <| oc (ok_guard 81 false (by kernel_rfl) iiz (fun _ => ok_not (true) iiz (fun _ => rfl)) (fun e => absurd rfl e)) <| oc (ok_pick false iiz (fun e => by cases e) (fun _ _ _ h => h)) <| obs_nil) fun a w20 s => ?_
   refine tail_end rfl ?_
   refine StS.cond s false iiz (fun e => by cases e) (fun e => ?_)
   refine wpIn_skip ?_
   refine wpIn_seq ?_
   refine region_go 10 ((90, .s ((UF.eq l).toSF)) :: (91, .s ((UF.eq l).toSF)) :: (92, .s ((fPN ((md A p.2))).toSF)) :: (93, .s (SF.row 6 (pns (shiftV (pps A) (md A p.2))))) :: (94, .s ((UF.eq (.bool false)).toSF)) :: (95, .s ((UF.eq (.bool true)).toSF)) :: (96, .s ((UF.eq (.bool true)).toSF)) :: (97, .s ((UF.eq (.bool true)).toSF)) :: (98, .s ((UF.eq (.bool true)).toSF)) :: (2, .u (UF.eq (.bool true))) :: []) hmix s (by kernel_rfl)
    (oc ok_move <| oc ok_move <| oc (ok_ldW (f := fPN ((md A p.2))) 6 (by kernel_rfl) (hz := pt_len _ _)) <| oc (ok_call2 wide_wide en_22 (fun u0 u1 W hb (h0 : u0 = l) (h1 : (fPN ((md A p.2))).p u1 W) => (ashift_p (m := 6) (t := (md A p.2)) (ps := pps A) (pvs_mono (m := 2) (by decide) _ _ (by rw [show _ = l from h0]; exact (SF.row 6 (pvs (2) (pps A))).st _ _ _ hA (s.up hb))) (pn_pv (p := (md A p.2)) (m := 6) hmq.1 hmq.2 h1) (by decide) (by decide) hnA (hT.below (s.up hb))).mono (Ret.to newRow_row))) <| oc (ok_call2 wide_wide en_13 (fun u0 u1 W hb (h0 : u0 = l) (h1 : (SF.row 6 (pns (shiftV (pps A) (md A p.2)))).p u1 W) => (apolys_p (m := 13) (ps := pps A) (qs := shiftV (pps A) (md A p.2)) (pvs_mono (m := 2) (m' := 13) (by decide) _ _ (by rw [show _ = l from h0]; exact (SF.row 6 (pvs (2) (pps A))).st _ _ _ hA (s.up hb))) (pns_pvs (m := 13) (shift_qb (m := 6) hq6 hmq) _ _ h1) (by decide) (by decide) hnA (by rw [shift_len]; exact hnA) (hT.below (s.up hb))).mono (Ret.to (fun v W h => by rw [hs3] at h; exact h)))) <| oc (ok_not (false) iiz (fun _ => rfl)) <| oc ok_move <| oc (ok_guard 96 true (by kernel_rfl) iiz (fun _ => ok_call0 wide_wide en_12 (fun W hb => wakes18 (hT.below (s.up hb)))) (fun e => absurd rfl e)) <| oc (ok_pick true iiz (fun _ _ _ h => h) (fun e => by cases e)) <| oc (ok_assign) <| obs_nil) fun a w21 s => ?_
   refine tail_end rfl ?_
   refine wpIn_ret ?_
   exact StS.res1 s (t := 2) rfl iiz
end Go.Proofs.Wd
