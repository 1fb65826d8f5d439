/- Walks of straitref07: Add, Mul, Sub, Mid, above, room; The walk of str and what it needs. -/
import Derived.Test.YtghgemeclgpibaaGreatDoorMQT20
import Derived.Test.YtghgemeclgpibaaGreatDoorMQT13
import Derived.Test.YtghgemeclgpibaaGreatDoorMQT16
import Derived.Test.YtghgemeclgpibaaGreatDoorMQT19
namespace Go.Proofs.Wd
open Go.RowKit Lb

theorem mem_sub {W : World} {b o : Nat} {cs ds : List Value} (k : Nat) (h : Mem W b o cs) (hd : ∀ j u, ds[j]? = some u → cs[k + j]? = some u) : Mem W b (o + k) ds := fun j u hj => by
  have := h (k + j) u (hd j u hj)
  rwa [← Nat.add_assoc] at this

abbrev rvs (m : Nat) (qs : List Rat) : List CU := qs.map fun q => CU.agg (fRV m q)
theorem rvs_get {m : Nat} {qs : List Rat} {k : Nat} (h : k < qs.length) : (rvs m qs)[k]? = some (CU.agg (fRV m (qAt qs k))) := by
  rw [List.getElem?_map, List.getElem?_eq_getElem h]
  simp [qAt, h]
theorem qAt_mem {qs : List Rat} {k : Nat} (h : k < qs.length) : qAt qs k ∈ qs := by
  simp [qAt, h]
theorem rv_cells {m : Nat} {q : Rat} {v : Value} {W : World} (h : RVp m q v W) : ∃ s A n c D i j, v = .agg #[.bool s, .slice A n c, .slice D i j] := by
  obtain ⟨k, d, h1, _⟩ := h
  exact qv_form h1
theorem sl_rv2 {u v : Value} {W : World} {m : Nat} {p q : Rat} (hu : RVp m p u W) (hv : RVp m q v W) : ∃ e cs, sliceCells Tryz.prog 44 2 [(0, u), (1, v)] = some (e, cs) ∧ (SF.row 3 (rvs m [p, q])).p (.slice (some ⟨W.heap.size, 0, none⟩) 2 2) (W.alloc (.cells cs e)) := by
  obtain ⟨s, A, n, c, D, i, j, rfl⟩ := rv_cells hu
  obtain ⟨s', A', n', c', D', i', j', rfl⟩ := rv_cells hv
  refine ⟨_, _, s_rat2 s s' A A' D D' n n' c c' i i' j j', some ⟨W.heap.size, 0, none⟩, 2, rfl, Nat.le_refl _, by decide, fun e => (by cases e), fun x C hx => ?_⟩
  have hb := alloc_b W (.cells #[.bool s, .slice A n c, .slice D i j, .bool s', .slice A' n' c', .slice D' i' j'] 27)
  have hm := mem_new W #[.bool s, .slice A n c, .slice D i j, .bool s', .slice A' n' c', .slice D' i' j'] 27
  rcases (by have := (List.getElem?_eq_some_iff.1 hx).1; simp at this; omega : x = 0 ∨ x = 1) with rfl | rfl
  · obtain rfl : CU.agg (fRV m p) = C := by simpa using hx
    exact ⟨W.heap.size, 0, [.bool s, .slice A n c, .slice D i j], rfl, mem_sub 0 hm (fun j u hj => by match j with | 0 => exact hj | 1 => exact hj | 2 => exact hj | j + 3 => simp at hj), (fRV m p).toSF.st _ _ _ hu hb⟩
  · obtain rfl : CU.agg (fRV m q) = C := by simpa using hx
    exact ⟨W.heap.size, 0, [.bool s', .slice A' n' c', .slice D' i' j'], rfl, mem_sub 3 hm (fun j u hj => by match j with | 0 => exact hj | 1 => exact hj | 2 => exact hj | j + 3 => simp at hj), (fRV m q).toSF.st _ _ _ hv hb⟩

set_option maxRecDepth 100000 in
theorem r7add_q {W : World} {m : Nat} {v : Value} {qs : List Rat} (M : Nat) (h : (SF.row 3 (rvs m qs)).p v W) (_hm0 : 0 < m) (hmM : m ≤ M) (hM : M ≤ 450) (hl : qs.length ≤ 1000000) (hq : ∀ q, q ∈ qs → QB q m) (hp : ∀ k, k ≤ qs.length → QB (qsum qs k) M) : Calls Tryz.prog 17 #[v] W (Ret W (fQN (qsum qs qs.length)).toSF) := by
  refine run_st [SF.row 3 (rvs m qs)] Tryz.func17 rfl (by kernel_rfl) ⟨h, trivial⟩ fun a s => ?_
  refine wpIn_seq ?_
  refine region_go 0 [] hmix s (by kernel_rfl)
    obs_nil fun a w1 s => ?_
  refine t_alloc (CU.len 3) (cs := [.bool false, .slice none 0 0, .slice none 0 0]) (by kernel_rfl) rfl s (by kernel_rfl) (fun W => rfl) rfl fun b2 a w s => ?_
  refine tail_end rfl ?_
  refine wpIn_seq ?_
  refine region_go 1 ((5, .u (fQN ((((0) : Int) : Rat)))) :: []) hmix s (by kernel_rfl)
    (obs_cons (ok_call1 wide_wide en_10 (fun u0 W hb (h0 : u0 = .int .i64 (0)) => r7of_w 0 h0 (by decide))) <| obs_nil) fun a w2 s => ?_
  refine t_alloc (CU.len 3) (cs := [.bool false, .slice none 0 0, .slice none 0 0]) (by kernel_rfl) rfl s (by kernel_rfl) (fun W => rfl) rfl fun b3 a w s => ?_
  refine t_store (CU.agg (fQN ((((0) : Int) : Rat)))) ((fQN ((((0) : Int) : Rat))).toSF) rfl s (by kernel_rfl) rfl rfl rfl (fun _ _ h => h) (fun _ _ h => h) (qn_store) fun a w s => ?_
  refine tail_end rfl ?_
  refine wpIn_seq ?_
  refine wpIn_seq ?_
  refine region_go 1 ((4, .u (UF.eq (.int .i64 (0)))) :: []) hmix s (by kernel_rfl)
    (obs_cons (ok_assign) <| obs_nil) fun a w3 s => ?_
  refine tail_end rfl ?_
  refine wpIn_block ?_
  refine st_whileB 3 (fun p => CU.agg (fQN ((qsum qs p)))) (fun p => p ≤ qs.length) (fun p => [(0, .o (SF.row 3 (rvs m qs))), (4, .u (fI ((p : Nat) : Int)))]) (fun p => qs.length - p) ((0 : Nat)) (Nat.zero_le _) (s.keepK _ (List.forall_mem_cons.2 ⟨.tail _ (.tail _ (.head _)), List.forall_mem_cons.2 ⟨.head _, List.forall_mem_nil _⟩⟩)) rfl fun p a w hx s => ?_
  refine wpIn_seq ?_
  refine wpIn_seq ?_
  refine region_go 4 ((6, .s ((fI ((p : Nat) : Int)).toSF)) :: (7, .s (SF.row 3 (rvs m qs))) :: (8, .s ((UF.eq (.int .i64 ((((rvs m qs).length : Nat) : Int)))).toSF)) :: (9, .u (UF.eq (.bool (decide (((p : Nat) : Int) < (((rvs m qs).length : Nat) : Int)))))) :: []) hmix s (by kernel_rfl)
    (obs_cons (ok_move) <| obs_cons (ok_move) <| obs_cons (ok_lenR (z := 3) (Cs := rvs m qs) (by kernel_rfl) (fun _ _ h => h) (fun _ => rfl)) <| obs_cons (ok_cmpI .i64 (((p : Nat) : Int)) ((((rvs m qs).length : Nat) : Int)) (decide (((p : Nat) : Int) < (((rvs m qs).length : Nat) : Int))) (fun _ _ h => h) (fun _ _ h => h) rfl rfl) <| obs_nil) fun a w4 s => ?_
  refine tail_end rfl ?_
  refine StS.cond s (decide (((p : Nat) : Int) < (((rvs m qs).length : Nat) : Int))) (fun _ _ h => h) (fun e => ?_) (fun e => ?_)
  · have hk1 : p + 1 ≤ qs.length := by have := of_decide_eq_true e; rw [List.length_map] at this; omega
    have hx2 := rvs_get (m := m) (k := p) hk1
    have hqp := hq _ (qAt_mem (k := p) hk1)
    refine wpIn_skip ?_
    refine wpIn_seq ?_
    refine wpIn_block ?_
    refine region_goP [1, 2] 7 ((12, .s ((fQN ((qsum qs p))).toSF)) :: (13, .s (SF.row 3 (rvs m qs))) :: (14, .s ((fI ((p : Nat) : Int)).toSF)) :: (15, .s (SF.ptr (CU.agg (fRV (m) ((qAt qs p)))).cf)) :: (16, .s ((fRV (m) ((qAt qs p))).toSF)) :: (17, .s ((fQN ((qAt qs p))).toSF)) :: (18, .u (fQN ((qsum qs p + qAt qs p)))) :: []) hmix s (by kernel_rfl)
      (obs_cons (ok_ldW (f := fQN ((qsum qs p))) 3 (by kernel_rfl) (hz := qn_len _)) <| obs_cons (ok_move) <| obs_cons (ok_move) <| obs_cons (ok_index (z := 3) (Cs := rvs m qs) (i := p) (C := CU.agg (fRV (m) ((qAt qs p)))) (by kernel_rfl) hx2 (fun _ _ h => h) (fun _ _ h => h)) <| obs_cons (ok_ldW (f := fRV (m) ((qAt qs p))) 3 (by kernel_rfl) (hz := rv_len _ _)) <| obs_cons (ok_call1 wide_wide en_30 (fun u0 W hb (h0 : RVp (m) ((qAt qs p)) u0 W) => r7norm_q h0 (by omega))) <| obs_cons (ok_call2 wide_wide en_54 (fun u0 u1 W hb (h0 : QNp ((qsum qs p)) u0 W) (h1 : QNp ((qAt qs p)) u1 W) => r7two_q h0 h1 (hp p hx) (hqp.mono (by omega)) (by omega))) <| obs_nil) fun Q' hQ a w5 s => ?_
    refine t_store (CU.agg (fQN ((qsum qs p + qAt qs p)))) ((fQN ((qsum qs p + qAt qs p))).toSF) rfl s (by kernel_rfl) rfl rfl rfl (qn_len _) (fun _ _ h => h) (qn_store) fun a w s => ?_
    refine tail_end rfl (hQ _ _ ?_)
    refine region_goS 2 ((10, .s ((fI ((p : Nat) : Int)).toSF)) :: (11, .u (fI ((p + 1 : Nat) : Int))) :: []) s (by kernel_rfl)
      (obs_cons (ok_move) <| obs_cons (ok_addI .i64 (((p : Nat) : Int)) (1) (((p + 1 : Nat)) : Int) (fun _ _ h => h) (fun _ _ h => h) (wrap64 _ _ (by omega) (by omega))) <| obs_nil) fun a w6 s => ?_
    replace s := s.drop [4]
    refine t_set (fI ((p + 1 : Nat) : Int)) rfl s (by kernel_rfl) (fun _ _ h => h) fun a w s => ?_
    refine tail_end rfl ?_
    exact ⟨p + 1, hk1, (by show qs.length - (p + 1) < qs.length - p; omega), s.keepK _ (List.forall_mem_cons.2 ⟨.tail _ (.tail _ (.tail _ (.tail _ (.head _)))), List.forall_mem_cons.2 ⟨.head _, List.forall_mem_nil _⟩⟩)⟩
  · have hk1 : p = qs.length := by have := of_decide_eq_false e; rw [List.length_map] at this; omega
    refine wpIn_exit ?_
    refine wpIn_seq ?_
    refine region_go 1 ((19, .u (fQN ((qsum qs p)))) :: []) hmix s (by kernel_rfl)
      (obs_cons (ok_ldW (f := fQN ((qsum qs p))) 3 (by kernel_rfl) (hz := qn_len _)) <| obs_nil) fun a w7 s => ?_
    refine t_store (CU.agg (fQN ((qsum qs p)))) ((fQN ((qsum qs p))).toSF) rfl s (by kernel_rfl) rfl rfl rfl (fun _ _ h => h) (fun _ _ h => h) (qn_store) fun a w s => ?_
    refine tail_end rfl ?_
    refine wpIn_ret ?_
    exact StS.resC s (CU.agg (fQN (qsum qs p))) rfl (by kernel_rfl) rfl rfl (qn_len _) (fun cs W h => by rw [hk1] at h; exact h)

set_option maxRecDepth 100000 in
theorem r7mul_q {W : World} {m : Nat} {v : Value} {qs : List Rat} (M : Nat) (h : (SF.row 3 (rvs m qs)).p v W) (_hm0 : 0 < m) (hmM : m ≤ M) (hM : M ≤ 450) (hl : qs.length ≤ 1000000) (hq : ∀ q, q ∈ qs → QB q m) (hp : ∀ k, k ≤ qs.length → QB (qprod qs k) M) : Calls Tryz.prog 19 #[v] W (Ret W (fQN (qprod qs qs.length)).toSF) := by
  refine run_st [SF.row 3 (rvs m qs)] Tryz.func19 rfl (by kernel_rfl) ⟨h, trivial⟩ fun a s => ?_
  refine wpIn_seq ?_
  refine region_go 0 [] hmix s (by kernel_rfl)
    obs_nil fun a w1 s => ?_
  refine t_alloc (CU.len 3) (cs := [.bool false, .slice none 0 0, .slice none 0 0]) (by kernel_rfl) rfl s (by kernel_rfl) (fun W => rfl) rfl fun b2 a w s => ?_
  refine tail_end rfl ?_
  refine wpIn_seq ?_
  refine region_go 1 ((6, .u (fQN ((((1) : Int) : Rat)))) :: []) hmix s (by kernel_rfl)
    (obs_cons (ok_call1 wide_wide en_10 (fun u0 W hb (h0 : u0 = .int .i64 (1)) => r7of_w 1 h0 (by decide))) <| obs_nil) fun a w2 s => ?_
  refine t_alloc (CU.len 3) (cs := [.bool false, .slice none 0 0, .slice none 0 0]) (by kernel_rfl) rfl s (by kernel_rfl) (fun W => rfl) rfl fun b3 a w s => ?_
  refine t_store (CU.agg (fQN ((((1) : Int) : Rat)))) ((fQN ((((1) : Int) : Rat))).toSF) rfl s (by kernel_rfl) rfl rfl rfl (fun _ _ h => h) (fun _ _ h => h) (qn_store) fun a w s => ?_
  refine tail_end rfl ?_
  refine wpIn_seq ?_
  refine wpIn_seq ?_
  refine region_go 1 ((4, .u (UF.eq (.int .i64 (0)))) :: []) hmix s (by kernel_rfl)
    (obs_cons (ok_assign) <| obs_nil) fun a w3 s => ?_
  refine tail_end rfl ?_
  refine wpIn_block ?_
  refine st_whileB 3 (fun p => CU.agg (fQN ((qprod qs p)))) (fun p => p ≤ qs.length) (fun p => [(0, .o (SF.row 3 (rvs m qs))), (4, .u (fI ((p : Nat) : Int)))]) (fun p => qs.length - p) ((0 : Nat)) (Nat.zero_le _) (s.keepK _ (List.forall_mem_cons.2 ⟨.tail _ (.tail _ (.head _)), List.forall_mem_cons.2 ⟨.head _, List.forall_mem_nil _⟩⟩)) rfl fun p a w hx s => ?_
  refine wpIn_seq ?_
  refine wpIn_seq ?_
  refine region_go 4 ((7, .s ((fI ((p : Nat) : Int)).toSF)) :: (8, .s (SF.row 3 (rvs m qs))) :: (9, .s ((UF.eq (.int .i64 ((((rvs m qs).length : Nat) : Int)))).toSF)) :: (10, .u (UF.eq (.bool (decide (((p : Nat) : Int) < (((rvs m qs).length : Nat) : Int)))))) :: []) hmix s (by kernel_rfl)
    (obs_cons (ok_move) <| obs_cons (ok_move) <| obs_cons (ok_lenR (z := 3) (Cs := rvs m qs) (by kernel_rfl) (fun _ _ h => h) (fun _ => rfl)) <| obs_cons (ok_cmpI .i64 (((p : Nat) : Int)) ((((rvs m qs).length : Nat) : Int)) (decide (((p : Nat) : Int) < (((rvs m qs).length : Nat) : Int))) (fun _ _ h => h) (fun _ _ h => h) rfl rfl) <| obs_nil) fun a w4 s => ?_
  refine tail_end rfl ?_
  refine StS.cond s (decide (((p : Nat) : Int) < (((rvs m qs).length : Nat) : Int))) (fun _ _ h => h) (fun e => ?_) (fun e => ?_)
  · have hk1 : p + 1 ≤ qs.length := by have := of_decide_eq_true e; rw [List.length_map] at this; omega
    have hx2 := rvs_get (m := m) (k := p) hk1
    have hqp := hq _ (qAt_mem (k := p) hk1)
    have hnew : ∀ W u0 u1, NV W u0 (((qprod qs p)).num * ((qAt qs p)).num) → NatV W u1 (((qprod qs p)).den * ((qAt qs p)).den) → Calls Tryz.prog 21 #[u0, u1] W (Ret W (fTup2 (fQN (qprod qs p * qAt qs p)) (fI 0)).toSF) := fun W u0 u1 h0 h1 => by
      have := r7new_p (m := M + m) (h0.uv' (Bd.mul (hp p hx).1 hqp.1)) (h1.lv (pow_mul_lt (hp p hx).2 hqp.2)) (by omega) (Nat.mul_pos (Rat.den_pos _) (Rat.den_pos _))
      rw [← Rat.mul_def'] at this
      exact this
    refine wpIn_skip ?_
    refine wpIn_seq ?_
    refine wpIn_block ?_
    refine wpIn_seq ?_
    refine region_go 5 ((13, .s (SF.row 3 (rvs m qs))) :: (14, .s ((fI ((p : Nat) : Int)).toSF)) :: (15, .s (SF.ptr (CU.agg (fRV (m) ((qAt qs p)))).cf)) :: (16, .s ((fRV (m) ((qAt qs p))).toSF)) :: (17, .u (fQN ((qAt qs p)))) :: []) hmix s (by kernel_rfl)
      (obs_cons (ok_move) <| obs_cons (ok_move) <| obs_cons (ok_index (z := 3) (Cs := rvs m qs) (i := p) (C := CU.agg (fRV (m) ((qAt qs p)))) (by kernel_rfl) hx2 (fun _ _ h => h) (fun _ _ h => h)) <| obs_cons (ok_ldW (f := fRV (m) ((qAt qs p))) 3 (by kernel_rfl) (hz := rv_len _ _)) <| obs_cons (ok_call1 wide_wide en_30 (fun u0 W hb (h0 : RVp (m) ((qAt qs p)) u0 W) => r7norm_q h0 (by omega))) <| obs_nil) fun a w5 s => ?_
    refine t_alloc (CU.len 3) (cs := [.bool false, .slice none 0 0, .slice none 0 0]) (by kernel_rfl) rfl s (by kernel_rfl) (fun W => rfl) rfl fun b5 a w s => ?_
    refine t_store (CU.agg (fQN ((qAt qs p)))) ((fQN ((qAt qs p))).toSF) rfl s (by kernel_rfl) rfl rfl rfl (fun _ _ h => h) (fun _ _ h => h) (qn_store) fun a w s => ?_
    refine tail_end rfl ?_
    refine region_goA2 (fun i => [14].contains i) [] 15 ((19, .s (SF.ptr ((CU.agg (fQN ((qprod qs p)))).cf.at 0))) :: (20, .s ((fNV (((qprod qs p)).num)).toSF)) :: (21, .s (SF.ptr ((CU.agg (fQN ((qAt qs p)))).cf.at 0))) :: (22, .s ((fNV (((qAt qs p)).num)).toSF)) :: (23, .s (fISV ((M + m)) [((qprod qs p)).num, ((qAt qs p)).num])) :: (24, .s ((fNV ((((qprod qs p)).num * ((qAt qs p)).num))).toSF)) :: (25, .s (SF.ptr ((CU.agg (fQN ((qprod qs p)))).cf.at 2))) :: (26, .s ((fNat (((qprod qs p)).den)).toSF)) :: (27, .s (SF.ptr ((CU.agg (fQN ((qAt qs p)))).cf.at 2))) :: (28, .s ((fNat (((qAt qs p)).den)).toSF)) :: (29, .s ((fNat (((qprod qs p)).den * ((qAt qs p)).den)).toSF)) :: (30, .s ((fTup2 (fQN ((qprod qs p * qAt qs p))) (UF.eq (.int .i64 (0)))).toSF)) :: (18, .s ((fTup2 (fQN ((qprod qs p * qAt qs p))) (UF.eq (.int .i64 (0)))).toSF)) :: (31, .u (fQN ((qprod qs p * qAt qs p)))) :: (32, .s ((UF.eq (.int .i64 (0))).toSF)) :: []) hmix s (List.forall_mem_nil _) (by kernel_rfl)
      (obs_cons (ok_fld (C := (CU.agg (fQN ((qprod qs p)))).cf) 0 (by kernel_rfl)) <| obs_cons (ok_ldA (C := (CU.agg (fQN ((qprod qs p)))).cf) (k := 0) 2 (by kernel_rfl) (h := qn_num)) <| obs_cons (ok_fld (C := (CU.agg (fQN ((qAt qs p)))).cf) 0 (by kernel_rfl)) <| obs_cons (ok_ldA (C := (CU.agg (fQN ((qAt qs p)))).cf) (k := 0) 2 (by kernel_rfl) (h := qn_num)) <| obs_cons (ok_slice2 (fun u v W (hu : NV W u (((qprod qs p)).num)) (hv : NV W v (((qAt qs p)).num)) => sl_int2 (NV.uv' hu (Bd.mono ((hp p hx)).1 (m' := (M + m)) (by first | omega | decide))) (NV.uv' hv (Bd.mono (hqp).1 (m' := (M + m)) (by first | omega | decide))))) <| obs_cons (ok_call1 wide_wide en_49 (fun u0 W hb (h0 : ISV W ((M + m)) u0 [((qprod qs p)).num, ((qAt qs p)).num]) => r5mul_w h0 (by show (M + m) * 2 + (M + m) + 1 ≤ 40000; omega) (by simp) (by simp))) <| obs_cons (ok_fld (C := (CU.agg (fQN ((qprod qs p)))).cf) 2 (by kernel_rfl)) <| obs_cons (ok_ld (C := (CU.agg (fQN ((qprod qs p)))).cf) (k := 2) (by kernel_rfl) (h := qn_den)) <| obs_cons (ok_fld (C := (CU.agg (fQN ((qAt qs p)))).cf) 2 (by kernel_rfl)) <| obs_cons (ok_ld (C := (CU.agg (fQN ((qAt qs p)))).cf) (k := 2) (by kernel_rfl) (h := qn_den)) <| obs_cons (ok_call2 wide_wide en_56 (fun u0 u1 W hb (h0 : NatV W u0 (((qprod qs p)).den)) (h1 : NatV W u1 (((qAt qs p)).den)) => rmul_v (NatV.lv (m := M + m) h0 (Nat.lt_of_lt_of_le (hp p hx).2 (Nat.pow_le_pow_right BB_pos (by omega)))) (NatV.lv (m := M + m) h1 (Nat.lt_of_lt_of_le hqp.2 (Nat.pow_le_pow_right BB_pos (by omega)))) (by omega))) <| obs_cons (ok_call2 wide_wide en_21 (fun u0 u1 W hb (h0 : NV W u0 ((((qprod qs p)).num * ((qAt qs p)).num))) (h1 : NatV W u1 (((qprod qs p)).den * ((qAt qs p)).den)) => hnew W u0 u1 h0 h1)) <| obs_cons (ok_move) <| obs_cons (ok_ext20 (A := (fQN ((qprod qs p * qAt qs p))).toSF) (B := (UF.eq (.int .i64 (0))).toSF) (fun _ _ h => h)) <| obs_cons (ok_ext21 (A := (fQN ((qprod qs p * qAt qs p))).toSF) (B := (UF.eq (.int .i64 (0))).toSF) (fun _ _ h => h)) <| obs_nil) fun Q' hQ a w6 s hr hd => ?_
    refine t_store (CU.agg (fQN ((qprod qs p * qAt qs p)))) ((fQN ((qprod qs p * qAt qs p))).toSF) rfl s (by kernel_rfl) rfl rfl rfl (qn_len _) (fun _ _ h => h) (qn_store) fun a w s => ?_
    refine tail_end rfl (hQ _ _ ?_)
    refine region_goS 2 ((11, .s ((fI ((p : Nat) : Int)).toSF)) :: (12, .u (fI ((p + 1 : Nat) : Int))) :: []) s (by kernel_rfl)
      (obs_cons (ok_move) <| obs_cons (ok_addI .i64 (((p : Nat) : Int)) (1) (((p + 1 : Nat)) : Int) (fun _ _ h => h) (fun _ _ h => h) (wrap64 _ _ (by omega) (by omega))) <| obs_nil) fun a w7 s => ?_
    replace s := s.drop [4]
    refine t_set (fI ((p + 1 : Nat) : Int)) rfl s (by kernel_rfl) (fun _ _ h => h) fun a w s => ?_
    refine tail_end rfl ?_
    replace s := s.popB
    exact ⟨p + 1, hk1, (by show qs.length - (p + 1) < qs.length - p; omega), s.keepK _ (List.forall_mem_cons.2 ⟨.tail _ (.tail _ (.tail _ (.tail _ (.tail _ (.head _))))), List.forall_mem_cons.2 ⟨.head _, List.forall_mem_nil _⟩⟩)⟩
  · have hk1 : p = qs.length := by have := of_decide_eq_false e; rw [List.length_map] at this; omega
    refine wpIn_exit ?_
    refine wpIn_seq ?_
    refine region_go 1 ((33, .u (fQN ((qprod qs p)))) :: []) hmix s (by kernel_rfl)
      (obs_cons (ok_ldW (f := fQN ((qprod qs p))) 3 (by kernel_rfl) (hz := qn_len _)) <| obs_nil) fun a w8 s => ?_
    refine t_store (CU.agg (fQN ((qprod qs p)))) ((fQN ((qprod qs p))).toSF) rfl s (by kernel_rfl) rfl rfl rfl (fun _ _ h => h) (fun _ _ h => h) (qn_store) fun a w s => ?_
    refine tail_end rfl ?_
    refine wpIn_ret ?_
    exact StS.resC s (CU.agg (fQN (qprod qs p))) rfl (by kernel_rfl) rfl rfl (qn_len _) (fun cs W h => by rw [hk1] at h; exact h)

theorem r7add2_q {W : World} {m : Nat} {v : Value} {p q : Rat} (h : (SF.row 3 (rvs m [p, q])).p v W) (hp : QB p m) (hq : QB q m) (hm : 2 * m + 1 ≤ 450) : Calls Tryz.prog 17 #[v] W (Ret W (fQN (p + q)).toSF) := by
  have := r7add_q (m + m + 1) h hp.pos (by omega) (by omega) (by simp) (fun x hx => by simp at hx; rcases hx with rfl | rfl; exact hp; exact hq) (fun k hk => by
    rcases (by simp at hk; omega : k = 0 ∨ k = 1 ∨ k = 2) with rfl | rfl | rfl
    · exact QB.zero (by omega)
    · show QB (0 + p) _
      rw [Rat.zero_add]
      exact hp.mono (by omega)
    · rw [qsum2]
      exact hp.add hq)
  rw [show ([p, q] : List Rat).length = 2 from rfl, qsum2] at this
  exact this

set_option maxRecDepth 100000 in
theorem r7sub_q {W : World} {m : Nat} {u v : Value} {p q : Rat} (h : RVp m p u W) (h' : RVp m q v W) (hm : m ≤ 140) (hm0 : 0 < m) : Calls Tryz.prog 15 #[u, v] W (Ret W (fQN (p - q)).toSF) := by
  have hp : QB p m := h.qb hm0
  have hq : QB q m := h'.qb hm0
  refine run_st [(fRV m p).toSF, (fRV m q).toSF] Tryz.func15 rfl (by kernel_rfl) ⟨h, h', trivial⟩ fun a s => ?_
  refine wpIn_seq ?_
  refine region_go 0 [] hmix s (by kernel_rfl)
    obs_nil fun a w1 s => ?_
  refine t_box (CU.agg (fRV (m) (p))) rfl s (by kernel_rfl) (fun v W h => rv_box h) fun b2 a w s => ?_
  refine t_box (CU.agg (fRV (m) (q))) rfl s (by kernel_rfl) (fun v W h => rv_box h) fun b3 a w s => ?_
  refine t_alloc (CU.len 3) (cs := [.bool false, .slice none 0 0, .slice none 0 0]) (by kernel_rfl) rfl s (by kernel_rfl) (fun W => rfl) rfl fun b4 a w s => ?_
  refine tail_end rfl ?_
  refine wpIn_seq ?_
  refine region_goP [] 5 ((5, .s ((fRV (m) (p)).toSF)) :: (6, .s ((fRV (m) (q)).toSF)) :: (7, .s ((fQN ((-q))).toSF)) :: (8, .s (SF.row 3 (rvs m [p, (-q)]))) :: (9, .u (fQN ((p + -q)))) :: []) hmix s (by kernel_rfl)
    (obs_cons (ok_ldW (f := fRV (m) (p)) 3 (by kernel_rfl) (hz := rv_len _ _)) <| obs_cons (ok_ldW (f := fRV (m) (q)) 3 (by kernel_rfl) (hz := rv_len _ _)) <| obs_cons (ok_call1 wide_wide en_32 (fun u0 W hb (h0 : RVp (m) (q) u0 W) => r7neg_q h0 (by omega) hm0)) <| obs_cons (ok_slice2 (fun u v W (hu : RVp (m) (p) u W) (hv : QNp ((-q)) v W) => sl_rv2 hu (QNp.rv hv hq.neg))) <| obs_cons (ok_call1 wide_wide en_17 (fun u0 W hb (h0 : (SF.row 3 (rvs m [p, (-q)])).p u0 W) => r7add2_q h0 hp hq.neg (by omega))) <| obs_nil) fun Q' hQ a w2 s => ?_
  refine t_store (CU.agg (fQN ((p + -q)))) ((fQN ((p + -q))).toSF) rfl s (by kernel_rfl) rfl rfl rfl (fun _ _ h => h) (fun _ _ h => h) (qn_store) fun a w s => ?_
  refine tail_end rfl (hQ _ _ ?_)
  refine wpIn_ret ?_
  exact StS.resC s (CU.agg (fQN (p + -q))) rfl (by kernel_rfl) rfl rfl (qn_len _) (fun cs W h => by rw [Rat.sub_eq_add_neg]; exact h)

set_option maxRecDepth 100000 in
theorem r7mid_q {W : World} {m : Nat} {u v : Value} {p q : Rat} (h : RVp m p u W) (h' : RVp m q v W) (hm : m ≤ 140) (hm0 : 0 < m) : Calls Tryz.prog 38 #[u, v] W (Ret W (fQN ((p + q) / 2)).toSF) := by
  have hp : QB p m := h.qb hm0
  have hq : QB q m := h'.qb hm0
  have hq2 : QB ((2 : Int) : Rat) (m + m + 1) := QB.mono (m := 1) ⟨by unfold Bd BB; decide +kernel, by unfold BB; decide +kernel⟩ (by omega)
  refine run_st [(fRV m p).toSF, (fRV m q).toSF] Tryz.func38 rfl (by kernel_rfl) ⟨h, h', trivial⟩ fun a s => ?_
  refine wpIn_seq ?_
  refine region_go 0 [] hmix s (by kernel_rfl)
    obs_nil fun a w1 s => ?_
  refine t_box (CU.agg (fRV (m) (p))) rfl s (by kernel_rfl) (fun v W h => rv_box h) fun b2 a w s => ?_
  refine t_box (CU.agg (fRV (m) (q))) rfl s (by kernel_rfl) (fun v W h => rv_box h) fun b3 a w s => ?_
  refine t_alloc (CU.len 3) (cs := [.bool false, .slice none 0 0, .slice none 0 0]) (by kernel_rfl) rfl s (by kernel_rfl) (fun W => rfl) rfl fun b4 a w s => ?_
  refine tail_end rfl ?_
  refine wpIn_seq ?_
  refine region_go 9 ((8, .s ((fRV (m) (p)).toSF)) :: (9, .s ((fRV (m) (q)).toSF)) :: (10, .s (SF.row 3 (rvs m [p, q]))) :: (11, .s ((fQN ((p + q))).toSF)) :: (12, .s ((fQN (((2 : Int) : Rat))).toSF)) :: (13, .s ((fTup2 (fQN (((p + q) / ((2 : Int) : Rat)))) (UF.any)).toSF)) :: (7, .s ((fTup2 (fQN (((p + q) / ((2 : Int) : Rat)))) (UF.any)).toSF)) :: (14, .u (fQN (((p + q) / ((2 : Int) : Rat))))) :: []) hmix s (by kernel_rfl)
    (obs_cons (ok_ldW (f := fRV (m) (p)) 3 (by kernel_rfl) (hz := rv_len _ _)) <| obs_cons (ok_ldW (f := fRV (m) (q)) 3 (by kernel_rfl) (hz := rv_len _ _)) <| obs_cons (ok_slice2 (fun u v W (hu : RVp (m) (p) u W) (hv : RVp (m) (q) v W) => sl_rv2 hu hv)) <| obs_cons (ok_call1 wide_wide en_17 (fun u0 W hb (h0 : (SF.row 3 (rvs m [p, q])).p u0 W) => r7add2_q h0 hp hq (by omega))) <| obs_cons (ok_call1 wide_wide en_10 (fun u0 W hb (h0 : u0 = .int .i64 (2)) => r7of_w 2 h0 (by decide))) <| obs_cons (ok_call2 wide_wide en_23 (fun u0 u1 W hb (h0 : QNp ((p + q)) u0 W) (h1 : QNp (((2 : Int) : Rat)) u1 W) => (r7quo_q (QNp.rv h0 (hp.add hq)) (QNp.rv h1 hq2) (by omega) (by omega)).mono (fun e w' ⟨v, e1, ⟨x, y, e2, h2, _⟩, hb⟩ => ⟨v, e1, ⟨x, y, e2, h2, trivial⟩, hb⟩))) <| obs_cons (ok_move) <| obs_cons (ok_ext20 (A := (fQN (((p + q) / ((2 : Int) : Rat)))).toSF) (B := (UF.any).toSF) (fun _ _ h => h)) <| obs_cons (ok_ext21 (A := (fQN (((p + q) / ((2 : Int) : Rat)))).toSF) (B := (UF.any).toSF) (fun _ _ h => h)) <| obs_nil) fun a w2 s => ?_
  refine t_alloc (CU.len 3) (cs := [.bool false, .slice none 0 0, .slice none 0 0]) (by kernel_rfl) rfl s (by kernel_rfl) (fun W => rfl) rfl fun b5 a w s => ?_
  refine t_store (CU.agg (fQN (((p + q) / ((2 : Int) : Rat))))) ((fQN (((p + q) / ((2 : Int) : Rat)))).toSF) rfl s (by kernel_rfl) rfl rfl rfl (fun _ _ h => h) (fun _ _ h => h) (qn_store) fun a w s => ?_
  refine t_set UF.any rfl s (by kernel_rfl) (fun _ _ _ => trivial) fun a w s => ?_
  refine tail_end rfl ?_
  refine wpIn_seq ?_
  refine region_go 1 ((16, .u (fQN (((p + q) / ((2 : Int) : Rat))))) :: []) hmix s (by kernel_rfl)
    (obs_cons (ok_ldW (f := fQN (((p + q) / ((2 : Int) : Rat)))) 3 (by kernel_rfl) (hz := qn_len _)) <| obs_nil) fun a w3 s => ?_
  refine t_store (CU.agg (fQN (((p + q) / ((2 : Int) : Rat))))) ((fQN (((p + q) / ((2 : Int) : Rat)))).toSF) rfl s (by kernel_rfl) rfl rfl rfl (fun _ _ h => h) (fun _ _ h => h) (qn_store) fun a w s => ?_
  refine tail_end rfl ?_
  refine wpIn_ret ?_
  exact StS.resC s (CU.agg (fQN ((p + q) / ((2 : Int) : Rat)))) rfl (by kernel_rfl) rfl rfl (qn_len _) (fun cs W h => h)

theorem two_pow_BB {sh M : Nat} (h : sh ≤ 32 * M) : 2 ^ sh ≤ BB ^ M := by
  rw [BB_pow]
  exact Nat.pow_le_pow_right (by decide) h
theorem rupw_v {W : World} {m : Nat} {u v : Value} {x sh : Nat} (h : LV W m u x) (hv : v = .int .i64 ((sh : Nat) : Int)) (hm : m ≤ 100000) (hs : sh ≤ 65536) : Calls Tryz.prog 13 #[u, v] W (Ret W (fNat (x * 2 ^ sh)).toSF) := by
  subst hv
  obtain ⟨A, n, c, l, rfl, h1, h2, h3, rfl⟩ := h
  have hd : 32 * (sh / 32) + sh % 32 = sh := by omega
  have := rup_any A n c l (sh / 32) (sh % 32) W h1 h2 (by omega) (by omega) (by omega)
  rw [hd] at this
  exact this.mono fun _ _ h => RetNat.v h
theorem shift_lt {x sh m M : Nat} (h : x < BB ^ m) (hs : sh ≤ 32 * M) : x * 2 ^ sh < BB ^ (m + M) := by
  rw [Nat.pow_add]
  exact Nat.mul_lt_mul_of_lt_of_le h (two_pow_BB hs) (Nat.pow_pos BB_pos)
theorem shift_sg (q : Rat) (sh : Nat) : (if decide (q.num < 0) then -((q.num.natAbs * 2 ^ sh : Nat) : Int) else ((q.num.natAbs * 2 ^ sh : Nat) : Int)) = q.num * ((2 ^ sh : Nat) : Int) := by
  by_cases h : q.num < 0
  · rw [decide_eq_true h, if_pos rfl, Int.natCast_mul, ← Int.neg_mul]
    congr 1
    omega
  · rw [decide_eq_false h, if_neg (by decide), Int.natCast_mul]
    congr 1
    omega
theorem fl_bd' {q : Rat} {m sh M : Nat} (h : QB q m) (hs : sh ≤ 32 * M) : Bd (fl (q * twoP sh)) (m + M) := by
  have h1 := h.1
  have h2 : (fl (q * twoP sh)).natAbs ≤ (q.num * ((2 ^ sh : Nat) : Int)).natAbs := by
    rw [fl_mul]
    have hd : (0 : Int) < q.den := by have := q.den_pos; omega
    generalize q.num * ((2 ^ sh : Nat) : Int) = z
    rcases Int.lt_or_le z 0 with hn | hn
    · have h2 : z ≤ z / (q.den : Int) := by
        rw [Int.le_ediv_iff_mul_le hd]
        have : z * (q.den : Int) ≤ z * 1 := Int.mul_le_mul_of_nonpos_left (by omega) (by omega)
        omega
      have h3 : z / (q.den : Int) < 0 := Int.ediv_neg_of_neg_of_pos hn hd
      omega
    · have h2 := Int.ediv_le_self (q.den : Int) hn
      have h3 := Int.ediv_nonneg hn (Int.le_of_lt hd)
      omega
  have h3 : (q.num * ((2 ^ sh : Nat) : Int)).natAbs < BB ^ (m + M) := by
    rw [Int.natAbs_mul, Int.natAbs_natCast]
    exact shift_lt h1 hs
  exact Nat.lt_of_le_of_lt h2 h3
theorem fl_bd {q : Rat} {m sh M : Nat} (h : QB q m) (hs : sh ≤ 32 * M) : Bd (fl (q * twoP sh) + 1) (m + M + 1) := by
  exact (fl_bd' h hs).add (Nat.lt_of_lt_of_le (show (1 : Int).natAbs < BB ^ 1 by decide) (Nat.pow_le_pow_right BB_pos (by have := h.pos; omega)))

set_option maxRecDepth 100000 in
theorem r7above_q {W : World} {m M : Nat} {u v : Value} {q : Rat} {sh : Nat} (h : QNp q u W) (hv : v = .int .i64 ((sh : Nat) : Int)) (hq : QB q m) (hs : sh ≤ 32 * M) (hM : m + M ≤ 900) : Calls Tryz.prog 75 #[u, v] W (Ret W (fNV ((fl (q * twoP sh)) + 1)).toSF) := by
  have hq0 := hq.pos
  obtain ⟨rest, hrest⟩ : ∃ rest, (q.num * ((2 ^ sh : Nat) : Int)) % (q.den : Int) = rest := ⟨_, rfl⟩
  have hb1 : Bd (1 : Int) (m + M + 1) := Nat.lt_of_lt_of_le (show (1 : Int).natAbs < BB ^ 1 by decide) (Nat.pow_le_pow_right BB_pos (by omega))
  have hbf : Bd (fl (q * twoP sh)) (m + M + 1) := by have h1 := fl_bd' hq hs; exact h1.mono (by omega)
  have hdiv : ∀ W u0 u1, UV W (m + M) u0 (q.num * ((2 ^ sh : Nat) : Int)) → NV W u1 (((q.den : Nat) : Int)) → Calls Tryz.prog 55 #[u0, u1] W (Ret W (fTup3 (fNV (fl (q * twoP sh))) (fNV rest) (fI 0)).toSF) := fun W u0 u1 h0 h1 => by
    have := r5divp_v h0 (NV.uv' h1 ((bd_nat hq.2).mono (by omega))) (by omega) (by have := q.den_pos; omega)
    rw [← fl_mul, hrest] at this
    exact this
  refine run_st [(fQN q).toSF, (fI ((sh : Nat) : Int)).toSF] Tryz.func75 rfl (by kernel_rfl) ⟨h, hv, trivial⟩ fun a s => ?_
  refine wpIn_seq ?_
  refine region_go 0 [] hmix s (by kernel_rfl)
    obs_nil fun a w1 s => ?_
  refine t_box (CU.agg (fQN (q))) rfl s (by kernel_rfl) (fun v W h => qn_box h) fun b2 a w s => ?_
  refine t_alloc (CU.len 2) (cs := [.bool false, .slice none 0 0]) (by kernel_rfl) rfl s (by kernel_rfl) (fun W => rfl) rfl fun b4 a w s => ?_
  refine tail_end rfl ?_
  refine wpIn_seq ?_
  have so := s.old; have sg := s.gr
  refine region_goA2 (fun i => [15, 16].contains i) [⟨17, 5, 25, [.bool false, .slice none 0 0], SF.newBox w 25 (CU.len 2)⟩, ⟨18, 6, 25, [.bool false, .slice none 0 0], SF.newBox w 25 (CU.len 2)⟩] 19 ((9, .s (SF.ptr ((CU.agg (fQN (q))).cf.at 0))) :: (10, .s (SF.ptr ((CU.agg (fQN (q))).cf.at 0))) :: (11, .s ((UF.eq (.bool (decide ((q).num < 0)))).toSF)) :: (12, .s (SF.ptr ((CU.agg (fQN (q))).cf.at 0))) :: (13, .s (SF.ptr ((CU.agg (fQN (q))).cf.at 1))) :: (14, .s ((fNat ((q).num.natAbs)).toSF)) :: (15, .s ((fI ((sh : Nat) : Int)).toSF)) :: (16, .s ((fNat ((q).num.natAbs * 2 ^ sh)).toSF)) :: (17, .s ((fUV ((m + M)) ((q.num * ((2 ^ sh : Nat) : Int)))).toSF)) :: (18, .s (SF.ptr ((CU.agg (fQN (q))).cf.at 2))) :: (19, .s ((fNat ((q).den)).toSF)) :: (20, .s ((fNV ((((q).den : Nat) : Int))).toSF)) :: (21, .s ((fTup3 (fNV ((fl (q * twoP sh)))) (fNV (rest)) (UF.eq (.int .i64 (0)))).toSF)) :: (8, .s ((fTup3 (fNV ((fl (q * twoP sh)))) (fNV (rest)) (UF.eq (.int .i64 (0)))).toSF)) :: (22, .u (fNV ((fl (q * twoP sh))))) :: (23, .u (fNV (rest))) :: (24, .u (UF.eq (.int .i64 (0)))) :: (5, .s (SF.newBox w 25 (CU.len 2))) :: (6, .s (SF.newBox w 25 (CU.len 2))) :: []) hmix s (List.forall_mem_cons.2 ⟨⟨by show 17 < 19; decide, .tail _ (.tail _ (.tail _ (.tail _ (.tail _ (.tail _ (.tail _ (.tail _ (.tail _ (.tail _ (.tail _ (.tail _ (.tail _ (.tail _ (.tail _ (.tail _ (.tail _ (.head _))))))))))))))))), ⟨_, _, _, rfl⟩, by kernel_rfl, own_new (fun _ => rfl) rfl⟩, List.forall_mem_cons.2 ⟨⟨by show 18 < 19; decide, .tail _ (.tail _ (.tail _ (.tail _ (.tail _ (.tail _ (.tail _ (.tail _ (.tail _ (.tail _ (.tail _ (.tail _ (.tail _ (.tail _ (.tail _ (.tail _ (.tail _ (.tail _ (.head _)))))))))))))))))), ⟨_, _, _, rfl⟩, by kernel_rfl, own_new (fun _ => rfl) rfl⟩, List.forall_mem_nil _⟩⟩) (by kernel_rfl)
    (obs_cons (ok_fld (C := (CU.agg (fQN (q))).cf) 0 (by kernel_rfl)) <| obs_cons (ok_fldn (C := (CU.agg (fQN (q))).cf) 0 0 (by kernel_rfl)) <| obs_cons (ok_ld (C := (CU.agg (fQN (q))).cf) (k := 0) (by kernel_rfl) (h := qn_neg)) <| obs_cons (ok_fld (C := (CU.agg (fQN (q))).cf) 0 (by kernel_rfl)) <| obs_cons (ok_fldn (C := (CU.agg (fQN (q))).cf) 0 1 (by kernel_rfl)) <| obs_cons (ok_ld (C := (CU.agg (fQN (q))).cf) (k := 1) (by kernel_rfl) (h := qn_abs)) <| obs_cons (ok_move) <| obs_cons (ok_call2 wide_wide en_13 (fun u0 u1 W hb (h0 : NatV W u0 ((q).num.natAbs)) (h1 : u1 = .int .i64 ((sh : Nat) : Int)) => rupw_v (NatV.lv (m := m) h0 hq.1) h1 (by omega) (by omega))) <| obs_cons (ok_build2 (fun u v W (hu : u = .bool (decide ((q).num < 0))) (hv : NatV W v ((q).num.natAbs * 2 ^ sh)) => by have := b_int hu hv (shift_lt hq.1 hs); rw [shift_sg q sh] at this; exact this)) <| obs_cons (ok_fld (C := (CU.agg (fQN (q))).cf) 2 (by kernel_rfl)) <| obs_cons (ok_ld (C := (CU.agg (fQN (q))).cf) (k := 2) (by kernel_rfl) (h := qn_den)) <| obs_cons (ok_call1 wide_wide en_50 (fun u0 W hb (h0 : NatV W u0 ((q).den)) => over_v h0)) <| obs_cons (ok_call2 wide_wide en_55 (fun u0 u1 W hb (h0 : UV W ((m + M)) u0 ((q.num * ((2 ^ sh : Nat) : Int)))) (h1 : NV W u1 ((((q).den : Nat) : Int))) => hdiv W u0 u1 h0 h1)) <| obs_cons (ok_move) <| obs_cons (ok_ext30 (A := (fNV ((fl (q * twoP sh)))).toSF) (B := (fNV (rest)).toSF) (C := (UF.eq (.int .i64 (0))).toSF) (fun _ _ h => h)) <| obs_cons (ok_ext31 (A := (fNV ((fl (q * twoP sh)))).toSF) (B := (fNV (rest)).toSF) (C := (UF.eq (.int .i64 (0))).toSF) (fun _ _ h => h)) <| obs_cons (ok_ext32 (A := (fNV ((fl (q * twoP sh)))).toSF) (B := (fNV (rest)).toSF) (C := (UF.eq (.int .i64 (0))).toSF) (fun _ _ h => h)) <| obs_cons (ok_alloc (cs := [.bool false, .slice none 0 0]) (by kernel_rfl) (own_new (fun _ => rfl) rfl)) <| obs_cons (ok_alloc (cs := [.bool false, .slice none 0 0]) (by kernel_rfl) (own_new (fun _ => rfl) rfl)) <| obs_nil) fun Q' hQ a w2 s hr hd => ?_
  obtain ⟨b5, _, e5, s⟩ := s.adoptA false 5 (hr (_, _) (.tail _ (.tail _ (.tail _ (.tail _ (.tail _ (.tail _ (.tail _ (.tail _ (.tail _ (.tail _ (.tail _ (.tail _ (.tail _ (.tail _ (.tail _ (.tail _ (.tail _ (.head _))))))))))))))))))) sg (fun y hy => .inl (so y hy))
  obtain ⟨b6, _, e6, s⟩ := s.adoptA false 6 (hr (_, _) (.tail _ (.tail _ (.tail _ (.tail _ (.tail _ (.tail _ (.tail _ (.tail _ (.tail _ (.tail _ (.tail _ (.tail _ (.tail _ (.tail _ (.tail _ (.tail _ (.tail _ (.tail _ (.head _)))))))))))))))))))) sg (fun y hy => by rcases List.mem_cons.1 hy with rfl | hy; exact .inr (.inr fun b hb => hd _ _ (.head _) (.tail _ (.head _)) (by show 17 ≠ 18; decide) _ _ e5 hb); exact .inl (so y hy))
  refine t_store (CU.agg (fNV ((fl (q * twoP sh))))) ((fNV ((fl (q * twoP sh)))).toSF) rfl s (by kernel_rfl) rfl rfl rfl (fun _ _ h => h) (fun _ _ h => h) (nv_store) fun a w s => ?_
  refine t_store (CU.agg (fNV (rest))) ((fNV (rest)).toSF) rfl s (by kernel_rfl) rfl rfl rfl (fun _ _ h => h) (fun _ _ h => h) (nv_store) fun a w s => ?_
  refine t_set (UF.eq (.int .i64 (0))) rfl s (by kernel_rfl) (fun _ _ h => h) fun a w s => ?_
  refine tail_end rfl (hQ _ _ ?_)
  refine wpIn_seq ?_
  refine region_goP [] 4 ((25, .s ((fNV ((fl (q * twoP sh)))).toSF)) :: (26, .s ((fNV ((1 : Int))).toSF)) :: (27, .s (fISV (m + M + 1) [(fl (q * twoP sh)), (1 : Int)])) :: (28, .u (fNV (((fl (q * twoP sh)) + 1)))) :: []) hmix s (by kernel_rfl)
    (obs_cons (ok_ldW (f := fNV ((fl (q * twoP sh)))) 2 (by kernel_rfl) (hz := nv_len _)) <| obs_cons (ok_call1 wide_wide en_14 (fun u0 W hb (h0 : u0 = .int .i64 (1)) => r5of_w 1 h0 (by decide))) <| obs_cons (ok_slice2 (fun u v W (hu : NV W u ((fl (q * twoP sh)))) (hv : NV W v ((1 : Int))) => sl_int2 (NV.uv' hu hbf) (NV.uv' hv hb1))) <| obs_cons (ok_call1 wide_wide en_84 (fun u0 W hb (h0 : ISV W (m + M + 1) u0 [(fl (q * twoP sh)), (1 : Int)]) => r5add_w h0 (by omega) (by simp) (by simp))) <| obs_nil) fun Q' hQ a w3 s => ?_
  refine t_store (CU.agg (fNV (((fl (q * twoP sh)) + 1)))) ((fNV (((fl (q * twoP sh)) + 1))).toSF) rfl s (by kernel_rfl) rfl rfl rfl (fun _ _ h => h) (fun _ _ h => h) (nv_store) fun a w s => ?_
  refine tail_end rfl (hQ _ _ ?_)
  refine wpIn_ret ?_
  exact StS.resC s (CU.agg (fNV ((fl (q * twoP sh)) + 1))) rfl (by kernel_rfl) rfl rfl (nv_len _) (fun cs W h => h)

theorem sign_lt_room (p q : Rat) (sh : Nat) : decide (((((fl (p * twoP sh)) + 1) * (((q).den : Nat) : Int)) - (q.num * ((2 ^ sh : Nat) : Int))).sign < 0) = roomB p q sh := by
  unfold roomB
  rw [decide_eq_decide]
  have h1 := @Int.sign_eq_neg_one_iff_neg ((((fl (p * twoP sh)) + 1) * (((q).den : Nat) : Int)) - (q.num * ((2 ^ sh : Nat) : Int)))
  have h2 := Int.sign_trichotomy ((((fl (p * twoP sh)) + 1) * (((q).den : Nat) : Int)) - (q.num * ((2 ^ sh : Nat) : Int)))
  omega

set_option maxRecDepth 100000 in
theorem r7room_q {W : World} {m M : Nat} {u v x : Value} {p q : Rat} {sh : Nat} (h : QNp p u W) (h' : QNp q v W) (hv : x = .int .i64 ((sh : Nat) : Int)) (hp : QB p m) (hq : QB q m) (hs : sh ≤ 32 * M) (hM : m + M ≤ 900) : Calls Tryz.prog 74 #[u, v, x] W (Ret W (fB (roomB p q sh)).toSF) := by
  have hp0 := hp.pos
  refine run_st [(fQN p).toSF, (fQN q).toSF, (fI ((sh : Nat) : Int)).toSF] Tryz.func74 rfl (by kernel_rfl) ⟨h, h', hv, trivial⟩ fun a s => ?_
  refine wpIn_seq ?_
  refine region_go 0 [] hmix s (by kernel_rfl)
    obs_nil fun a w1 s => ?_
  refine t_box (CU.agg (fQN (p))) rfl s (by kernel_rfl) (fun v W h => qn_box h) fun b3 a w s => ?_
  refine t_box (CU.agg (fQN (q))) rfl s (by kernel_rfl) (fun v W h => qn_box h) fun b4 a w s => ?_
  refine t_set (UF.eq (.bool false)) rfl s (by kernel_rfl) (fun _ _ h => h) fun a w s => ?_
  refine tail_end rfl ?_
  refine wpIn_seq ?_
  refine region_go 3 ((8, .s ((fQN (p)).toSF)) :: (9, .s ((fI ((sh : Nat) : Int)).toSF)) :: (10, .u (fNV (((fl (p * twoP sh)) + 1)))) :: []) hmix s (by kernel_rfl)
    (obs_cons (ok_ldW (f := fQN (p)) 3 (by kernel_rfl) (hz := qn_len _)) <| obs_cons (ok_move) <| obs_cons (ok_call2 wide_wide en_75 (fun u0 u1 W hb (h0 : QNp (p) u0 W) (h1 : u1 = .int .i64 ((sh : Nat) : Int)) => r7above_q h0 h1 hp hs (by omega))) <| obs_nil) fun a w2 s => ?_
  refine t_alloc (CU.len 2) (cs := [.bool false, .slice none 0 0]) (by kernel_rfl) rfl s (by kernel_rfl) (fun W => rfl) rfl fun b7 a w s => ?_
  refine t_store (CU.agg (fNV (((fl (p * twoP sh)) + 1)))) ((fNV (((fl (p * twoP sh)) + 1))).toSF) rfl s (by kernel_rfl) rfl rfl rfl (fun _ _ h => h) (fun _ _ h => h) (nv_store) fun a w s => ?_
  refine tail_end rfl ?_
  refine wpIn_seq ?_
  replace s := s.drop [6]
  refine region_go 18 ((11, .s ((fNV (((fl (p * twoP sh)) + 1))).toSF)) :: (12, .s (SF.ptr ((CU.agg (fQN (q))).cf.at 2))) :: (13, .s ((fNat ((q).den)).toSF)) :: (14, .s ((fNV ((((q).den : Nat) : Int))).toSF)) :: (15, .s (fISV ((m + M + 1)) [((fl (p * twoP sh)) + 1), (((q).den : Nat) : Int)])) :: (16, .s ((fNV ((((fl (p * twoP sh)) + 1) * (((q).den : Nat) : Int)))).toSF)) :: (17, .s (SF.ptr ((CU.agg (fQN (q))).cf.at 0))) :: (18, .s (SF.ptr ((CU.agg (fQN (q))).cf.at 0))) :: (19, .s ((UF.eq (.bool (decide ((q).num < 0)))).toSF)) :: (20, .s (SF.ptr ((CU.agg (fQN (q))).cf.at 0))) :: (21, .s (SF.ptr ((CU.agg (fQN (q))).cf.at 1))) :: (22, .s ((fNat ((q).num.natAbs)).toSF)) :: (23, .s ((fI ((sh : Nat) : Int)).toSF)) :: (24, .s ((fNat ((q).num.natAbs * 2 ^ sh)).toSF)) :: (25, .s ((fUV ((m + M)) ((q.num * ((2 ^ sh : Nat) : Int)))).toSF)) :: (26, .s ((UF.eq (.int .i64 (((((fl (p * twoP sh)) + 1) * (((q).den : Nat) : Int)) - (q.num * ((2 ^ sh : Nat) : Int))).sign))).toSF)) :: (27, .s ((UF.eq (.bool (roomB p q sh))).toSF)) :: (6, .u (UF.eq (.bool (roomB p q sh)))) :: []) hmix s (by kernel_rfl)
    (obs_cons (ok_ldW (f := fNV (((fl (p * twoP sh)) + 1))) 2 (by kernel_rfl) (hz := nv_len _)) <| obs_cons (ok_fld (C := (CU.agg (fQN (q))).cf) 2 (by kernel_rfl)) <| obs_cons (ok_ld (C := (CU.agg (fQN (q))).cf) (k := 2) (by kernel_rfl) (h := qn_den)) <| obs_cons (ok_call1 wide_wide en_50 (fun u0 W hb (h0 : NatV W u0 ((q).den)) => over_v h0)) <| obs_cons (ok_slice2 (fun u v W (hu : NV W u (((fl (p * twoP sh)) + 1))) (hv : NV W v ((((q).den : Nat) : Int))) => sl_int2 (NV.uv' hu (fl_bd hp hs)) (NV.uv' hv ((bd_nat hq.2).mono (by omega))))) <| obs_cons (ok_call1 wide_wide en_49 (fun u0 W hb (h0 : ISV W ((m + M + 1)) u0 [((fl (p * twoP sh)) + 1), (((q).den : Nat) : Int)]) => r5mul_w h0 (by show (m + M + 1) * 2 + (m + M + 1) + 1 ≤ 40000; omega) (by simp) (by simp))) <| obs_cons (ok_fld (C := (CU.agg (fQN (q))).cf) 0 (by kernel_rfl)) <| obs_cons (ok_fldn (C := (CU.agg (fQN (q))).cf) 0 0 (by kernel_rfl)) <| obs_cons (ok_ld (C := (CU.agg (fQN (q))).cf) (k := 0) (by kernel_rfl) (h := qn_neg)) <| obs_cons (ok_fld (C := (CU.agg (fQN (q))).cf) 0 (by kernel_rfl)) <| obs_cons (ok_fldn (C := (CU.agg (fQN (q))).cf) 0 1 (by kernel_rfl)) <| obs_cons (ok_ld (C := (CU.agg (fQN (q))).cf) (k := 1) (by kernel_rfl) (h := qn_abs)) <| obs_cons (ok_move) <| obs_cons (ok_call2 wide_wide en_13 (fun u0 u1 W hb (h0 : NatV W u0 ((q).num.natAbs)) (h1 : u1 = .int .i64 ((sh : Nat) : Int)) => rupw_v (NatV.lv (m := m) h0 hq.1) h1 (by omega) (by omega))) <| obs_cons (ok_build2 (fun u v W (hu : u = .bool (decide ((q).num < 0))) (hv : NatV W v ((q).num.natAbs * 2 ^ sh)) => by have := b_int hu hv (shift_lt hq.1 hs); rw [shift_sg q sh] at this; exact this)) <| obs_cons (ok_call2 wide_wide en_102 (fun u0 u1 W hb (h0 : NV W u0 ((((fl (p * twoP sh)) + 1) * (((q).den : Nat) : Int)))) (h1 : UV W ((m + M)) u1 ((q.num * ((2 ^ sh : Nat) : Int)))) => calls_eq (r5cmp_v (NV.uv' h0 (Bd.mul (fl_bd hp hs) ((bd_nat hq.2).mono (by omega)))) (UV.mono h1 (m' := ((m + M + 1) + (m + M + 1))) (by first | omega | decide)) (by omega)))) <| obs_cons (ok_cmpI .i64 (((((fl (p * twoP sh)) + 1) * (((q).den : Nat) : Int)) - (q.num * ((2 ^ sh : Nat) : Int))).sign) (0) (roomB p q sh) (fun _ _ h => h) (fun _ _ h => h) (by exact sign_lt_room p q sh) rfl) <| obs_cons (ok_assign) <| obs_nil) fun a w3 s => ?_
  refine tail_end rfl ?_
  refine wpIn_ret ?_
  exact StS.res1 s (t := 6) rfl (fun _ _ h => h)

end Go.Proofs.Wd


namespace Go.Proofs.Wd
open Go.RowKit Lb

theorem sign_ge (q : Rat) (b : Bool) (h : b = decide (0 ≤ q)) : decide (q.num.sign ≥ 0) = b := by
  rw [h, decide_eq_decide, ← Rat.num_nonneg]
  exact Int.sign_nonneg_iff
theorem sign_le (q : Rat) (b : Bool) (h : b = decide (q ≤ 0)) : decide (q.num.sign ≤ 0) = b := by
  rw [h, decide_eq_decide]
  have h1 : q ≤ 0 ↔ 0 ≤ -q := by constructor <;> intro h <;> grind
  rw [h1, ← Rat.num_nonneg, Rat.neg_num]
  have h2 := @Int.sign_nonneg_iff (-q.num)
  rw [Int.sign_neg] at h2
  omega
theorem upto_neg (k : Int) (d : Nat) : mkRat (-k) d = -mkRat k d := Rat.neg_mkRat k d |>.symm

set_option maxRecDepth 100000 in
theorem r7between_ge {W : World} {m : Nat} {u v : Value} {p q : Rat} (h : RVp m p u W) (h' : RVp m q v W) (hm : m ≤ 450) (hm0 : 0 < m) (hc : q ≤ p) : Calls Tryz.prog 35 #[u, v] W (Ret W (fTup2 (fQN (((0 : Int) : Rat))) (fB false)).toSF) := by
  have hp : QB p m := h.qb hm0
  have hq : QB q m := h'.qb hm0
  have hcmp : decide (qsg p q ≥ 0) = true := by refine decide_eq_true ?_; rcases qsg_tri p q with e | e | e; have := qsg_lt.1 e; grind; omega; omega
  refine run_st [(fRV m p).toSF, (fRV m q).toSF] Tryz.func35 rfl (by kernel_rfl) ⟨h, h', trivial⟩ fun a s => ?_
  refine wpIn_seq ?_
  refine region_go 0 [] hmix s (by kernel_rfl)
    obs_nil fun a w1 s => ?_
  refine t_box (CU.agg (fRV (m) (p))) rfl s (by kernel_rfl) (fun v W h => rv_box h) fun b2 a w s => ?_
  refine t_box (CU.agg (fRV (m) (q))) rfl s (by kernel_rfl) (fun v W h => rv_box h) fun b3 a w s => ?_
  refine t_alloc (CU.len 3) (cs := [.bool false, .slice none 0 0, .slice none 0 0]) (by kernel_rfl) rfl s (by kernel_rfl) (fun W => rfl) rfl fun b4 a w s => ?_
  refine t_set (UF.eq (.bool false)) rfl s (by kernel_rfl) (fun _ _ h => h) fun a w s => ?_
  refine tail_end rfl ?_
  refine wpIn_seq ?_
  refine region_goP [] 4 ((12, .s ((fRV (m) (p)).toSF)) :: (13, .u (fQN (p))) :: (14, .s ((fRV (m) (q)).toSF)) :: (15, .u (fQN (q))) :: []) hmix s (by kernel_rfl)
    (obs_cons (ok_ldW (f := fRV (m) (p)) 3 (by kernel_rfl) (hz := rv_len _ _)) <| obs_cons (ok_call1 wide_wide en_30 (fun u0 W hb (h0 : RVp (m) (p) u0 W) => r7norm_q h0 (by omega))) <| obs_cons (ok_ldW (f := fRV (m) (q)) 3 (by kernel_rfl) (hz := rv_len _ _)) <| obs_cons (ok_call1 wide_wide en_30 (fun u0 W hb (h0 : RVp (m) (q) u0 W) => r7norm_q h0 (by omega))) <| obs_nil) fun Q' hQ a w2 s => ?_
  refine t_store (CU.agg (fQN (p))) ((fQN (p)).toSF) rfl s (by kernel_rfl) rfl rfl rfl (rv_len _ _) (fun _ _ h => h) (qn_store) fun a w s => ?_
  refine t_store (CU.agg (fQN (q))) ((fQN (q)).toSF) rfl s (by kernel_rfl) rfl rfl rfl (rv_len _ _) (fun _ _ h => h) (qn_store) fun a w s => ?_
  refine tail_end rfl (hQ _ _ ?_)
  refine wpIn_seq ?_
  refine wpIn_seq ?_
  refine region_go 4 ((16, .s ((fQN (p)).toSF)) :: (17, .s ((fQN (q)).toSF)) :: (18, .s ((UF.eq (.int .i64 ((qsg p q)))).toSF)) :: (19, .u (UF.eq (.bool true))) :: []) hmix s (by kernel_rfl)
    (obs_cons (ok_ldW (f := fQN (p)) 3 (by kernel_rfl) (hz := qn_len _)) <| obs_cons (ok_ldW (f := fQN (q)) 3 (by kernel_rfl) (hz := qn_len _)) <| obs_cons (ok_call2 wide_wide en_8 (fun u0 u1 W hb (h0 : QNp (p) u0 W) (h1 : QNp (q) u1 W) => r7cmp_q (QNp.rv h0 hp) (QNp.rv h1 hq) (by omega) hm0)) <| obs_cons (ok_cmpI .i64 ((qsg p q)) 0 true (fun _ _ h => h) (fun _ _ h => h) (by exact hcmp) rfl) <| obs_nil) fun a w3 s => ?_
  refine tail_end rfl ?_
  refine StS.cond s true (fun _ _ h => h) (fun e => ?_) (fun e => by cases e)
  refine wpIn_seq ?_
  replace s := s.drop [5]
  refine region_go 1 ((20, .u (fQN (((0 : Int) : Rat)))) :: []) hmix s (by kernel_rfl)
    (obs_cons (ok_call1 wide_wide en_10 (fun u0 W hb (h0 : u0 = .int .i64 (0)) => r7of_w 0 h0 (by decide))) <| obs_nil) fun a w4 s => ?_
  refine t_store (CU.agg (fQN (((0 : Int) : Rat)))) ((fQN (((0 : Int) : Rat))).toSF) rfl s (by kernel_rfl) rfl rfl rfl (fun _ _ h => h) (fun _ _ h => h) (qn_store) fun a w s => ?_
  refine t_set (UF.eq (.bool false)) rfl s (by kernel_rfl) (fun _ _ h => h) fun a w s => ?_
  refine tail_end rfl ?_
  refine wpIn_ret ?_
  exact StS.resCT s (CU.agg (fQN (((0 : Int) : Rat)))) rfl (by kernel_rfl) rfl rfl (qn_len _) (fun cs v W h1 h2 => ⟨_, _, rfl, h1, h2⟩)

set_option maxRecDepth 100000 in
theorem r7between_lt {W : World} {m : Nat} {u v : Value} {p q : Rat} (h : RVp m p u W) (h' : RVp m q v W) (hm : m ≤ 450) (hm0 : 0 < m) (S : Nat) (hS : Least p q S) (hSb : S ≤ 3000) : Calls Tryz.prog 35 #[u, v] W (Ret W (fTup2 (fQN (btw p q S)) (fB true)).toSF) := by
  have hp : QB p m := h.qb hm0
  have hq : QB q m := h'.qb hm0
  have hpq : p < q := by have h1 := btw_lt hS; grind
  have hcmp : decide (qsg p q ≥ 0) = false := by refine decide_eq_false ?_; rw [qsg_lt.2 hpq]; decide
  have hb0 : Bd (0 : Int) (m + 200 + 1) := Nat.pow_pos BB_pos
  have hup : ∀ W u0 u1, NatV W u0 1 → u1 = .int .i64 ((S : Nat) : Int) → Calls Tryz.prog 13 #[u0, u1] W (Ret W (fNat (2 ^ S)).toSF) := fun W u0 u1 h0 h1 => by
    have := rupw_v (NatV.lv (m := 1) h0 (by unfold BB; decide)) h1 (by omega) (by omega)
    rw [Nat.one_mul] at this
    exact this
  refine run_st [(fRV m p).toSF, (fRV m q).toSF] Tryz.func35 rfl (by kernel_rfl) ⟨h, h', trivial⟩ fun a s => ?_
  refine wpIn_seq ?_
  refine region_go 0 [] hmix s (by kernel_rfl)
    obs_nil fun a w1 s => ?_
  refine t_box (CU.agg (fRV (m) (p))) rfl s (by kernel_rfl) (fun v W h => rv_box h) fun b2 a w s => ?_
  refine t_box (CU.agg (fRV (m) (q))) rfl s (by kernel_rfl) (fun v W h => rv_box h) fun b3 a w s => ?_
  refine t_alloc (CU.len 3) (cs := [.bool false, .slice none 0 0, .slice none 0 0]) (by kernel_rfl) rfl s (by kernel_rfl) (fun W => rfl) rfl fun b4 a w s => ?_
  refine t_set (UF.eq (.bool false)) rfl s (by kernel_rfl) (fun _ _ h => h) fun a w s => ?_
  refine tail_end rfl ?_
  refine wpIn_seq ?_
  refine region_goP [] 4 ((12, .s ((fRV (m) (p)).toSF)) :: (13, .u (fQN (p))) :: (14, .s ((fRV (m) (q)).toSF)) :: (15, .u (fQN (q))) :: []) hmix s (by kernel_rfl)
    (obs_cons (ok_ldW (f := fRV (m) (p)) 3 (by kernel_rfl) (hz := rv_len _ _)) <| obs_cons (ok_call1 wide_wide en_30 (fun u0 W hb (h0 : RVp (m) (p) u0 W) => r7norm_q h0 (by omega))) <| obs_cons (ok_ldW (f := fRV (m) (q)) 3 (by kernel_rfl) (hz := rv_len _ _)) <| obs_cons (ok_call1 wide_wide en_30 (fun u0 W hb (h0 : RVp (m) (q) u0 W) => r7norm_q h0 (by omega))) <| obs_nil) fun Q' hQ a w2 s => ?_
  refine t_store (CU.agg (fQN (p))) ((fQN (p)).toSF) rfl s (by kernel_rfl) rfl rfl rfl (rv_len _ _) (fun _ _ h => h) (qn_store) fun a w s => ?_
  refine t_store (CU.agg (fQN (q))) ((fQN (q)).toSF) rfl s (by kernel_rfl) rfl rfl rfl (rv_len _ _) (fun _ _ h => h) (qn_store) fun a w s => ?_
  refine tail_end rfl (hQ _ _ ?_)
  refine wpIn_seq ?_
  refine wpIn_seq ?_
  refine region_go 4 ((16, .s ((fQN (p)).toSF)) :: (17, .s ((fQN (q)).toSF)) :: (18, .s ((UF.eq (.int .i64 ((qsg p q)))).toSF)) :: (19, .u (UF.eq (.bool false))) :: []) hmix s (by kernel_rfl)
    (obs_cons (ok_ldW (f := fQN (p)) 3 (by kernel_rfl) (hz := qn_len _)) <| obs_cons (ok_ldW (f := fQN (q)) 3 (by kernel_rfl) (hz := qn_len _)) <| obs_cons (ok_call2 wide_wide en_8 (fun u0 u1 W hb (h0 : QNp (p) u0 W) (h1 : QNp (q) u1 W) => r7cmp_q (QNp.rv h0 hp) (QNp.rv h1 hq) (by omega) hm0)) <| obs_cons (ok_cmpI .i64 ((qsg p q)) 0 false (fun _ _ h => h) (fun _ _ h => h) (by exact hcmp) rfl) <| obs_nil) fun a w3 s => ?_
  refine tail_end rfl ?_
  refine StS.cond s false (fun _ _ h => h) (fun e => by cases e) (fun e => ?_)
  refine wpIn_skip ?_
  refine wpIn_seq ?_
  refine region_go 1 ((6, .u (UF.eq (.int .i64 (1)))) :: []) hmix s (by kernel_rfl)
    (obs_cons (ok_assign) <| obs_nil) fun a w4 s => ?_
  refine tail_end rfl ?_
  refine wpIn_seq ?_
  refine wpIn_block ?_
  refine st_whileK (fun p1 => 1 ≤ p1 ∧ p1 ≤ 2 * S + 1) (fun p1 => [(6, .u (fI ((p1 : Nat) : Int)))]) (fun p1 => 2 * S + 2 - p1) ((1 : Nat)) (⟨Nat.le_refl _, by omega⟩) (s.keepK _ (List.forall_mem_cons.2 ⟨.head _, List.forall_mem_nil _⟩)) fun p1 a w hx s => ?_
  obtain ⟨hx1, hx2⟩ := hx
  refine wpIn_seq ?_
  refine wpIn_seq ?_
  refine region_go 5 ((21, .s ((fQN (p)).toSF)) :: (22, .s ((fQN (q)).toSF)) :: (23, .s ((fI ((p1 : Nat) : Int)).toSF)) :: (24, .s ((UF.eq (.bool (decide (S ≤ p1)))).toSF)) :: (25, .u (UF.eq (.bool (!(decide (S ≤ p1)))))) :: []) hmix s (by kernel_rfl)
    (obs_cons (ok_ldW (f := fQN (p)) 3 (by kernel_rfl) (hz := qn_len _)) <| obs_cons (ok_ldW (f := fQN (q)) 3 (by kernel_rfl) (hz := qn_len _)) <| obs_cons (ok_move) <| obs_cons (ok_call3 wide_wide en_74 (fun u0 u1 u2 W hb (h0 : QNp (p) u0 W) (h1 : QNp (q) u1 W) (h2 : u2 = .int .i64 ((p1 : Nat) : Int)) => ret_cast (r7room_q (M := 200) h0 h1 h2 hp hq (by omega) (by omega)) (by rw [roomB_least hS]; rfl))) <| obs_cons (ok_not (decide (S ≤ p1)) (fun _ _ h => h) (fun _ => rfl)) <| obs_nil) fun a w5 s => ?_
  refine tail_end rfl ?_
  refine StS.cond s (!(decide (S ≤ p1))) (fun _ _ h => h) (fun e => ?_) (fun e => ?_)
  · have e1 : ¬ S ≤ p1 := by simpa using e
    refine wpIn_skip ?_
    refine wpIn_block ?_
    refine region_goS 2 ((26, .s ((fI ((p1 : Nat) : Int)).toSF)) :: (27, .u (fI ((2 * p1 : Nat) : Int))) :: []) s (by kernel_rfl)
      (obs_cons (ok_move) <| obs_cons (ok_mulI .i64 (2) (((p1 : Nat) : Int)) (((2 * p1 : Nat)) : Int) (fun _ _ h => h) (fun _ _ h => h) (wrap64 _ _ (by omega) (by omega))) <| obs_nil) fun a w6 s => ?_
    replace s := s.drop [6]
    refine t_set (fI ((2 * p1 : Nat) : Int)) rfl s (by kernel_rfl) (fun _ _ h => h) fun a w s => ?_
    refine tail_end rfl ?_
    exact ⟨2 * p1, ⟨by omega, by omega⟩, (by show 2 * S + 2 - 2 * p1 < 2 * S + 2 - p1; omega), s.keepK _ (List.forall_mem_cons.2 ⟨.head _, List.forall_mem_nil _⟩)⟩
  · have e1 : S ≤ p1 := by simpa using e
    obtain ⟨pm, hpm⟩ : ∃ pm, p1 = pm := ⟨_, rfl⟩
    rw [hpm] at s e1 hx2
    have hpm1 : S ≤ pm := e1
    have hpm2 : pm ≤ 2 * S + 1 := hx2
    refine wpIn_exit ?_
    refine wpIn_seq ?_
    refine region_go 1 ((7, .u (UF.eq (.int .i64 (0)))) :: []) hmix s (by kernel_rfl)
      (obs_cons (ok_assign) <| obs_nil) fun a w7 s => ?_
    refine tail_end rfl ?_
    refine wpIn_seq ?_
    refine wpIn_block ?_
    refine st_whileK (fun p1 => p1.1 ≤ S ∧ S ≤ p1.2 ∧ p1.2 ≤ 2 * S + 1) (fun p1 => [(7, .u (fI ((p1.1 : Nat) : Int))), (6, .u (fI ((p1.2 : Nat) : Int)))]) (fun p1 => p1.2 - p1.1) (((0, pm) : Nat × Nat)) (⟨Nat.zero_le _, hpm1, hpm2⟩) (s.keepK _ (List.forall_mem_cons.2 ⟨.head _, List.forall_mem_cons.2 ⟨.tail _ (.tail _ (.head _)), List.forall_mem_nil _⟩⟩)) fun p1 a w hx s => ?_
    obtain ⟨hx1, hx2, hx3⟩ := hx
    refine wpIn_seq ?_
    refine wpIn_seq ?_
    refine region_go 3 ((28, .s ((fI ((p1.1 : Nat) : Int)).toSF)) :: (29, .s ((fI ((p1.2 : Nat) : Int)).toSF)) :: (30, .u (UF.eq (.bool (decide (((p1.1 : Nat) : Int) < ((p1.2 : Nat) : Int)))))) :: []) hmix s (by kernel_rfl)
      (obs_cons (ok_move) <| obs_cons (ok_move) <| obs_cons (ok_cmpI .i64 (((p1.1 : Nat) : Int)) (((p1.2 : Nat) : Int)) (decide (((p1.1 : Nat) : Int) < ((p1.2 : Nat) : Int))) (fun _ _ h => h) (fun _ _ h => h) rfl rfl) <| obs_nil) fun a w8 s => ?_
    refine tail_end rfl ?_
    refine StS.cond s (decide (((p1.1 : Nat) : Int) < ((p1.2 : Nat) : Int))) (fun _ _ h => h) (fun e => ?_) (fun e => ?_)
    · have e2 : p1.1 < p1.2 := by have := of_decide_eq_true e; omega
      refine wpIn_skip ?_
      refine wpIn_block ?_
      refine wpIn_seq ?_
      refine region_go 5 ((31, .s ((fI ((p1.1 : Nat) : Int)).toSF)) :: (32, .s ((fI ((p1.2 : Nat) : Int)).toSF)) :: (33, .s ((fI ((p1.1 + p1.2 : Nat) : Int)).toSF)) :: (34, .s ((fI (((p1.1 + p1.2) / 2 : Nat) : Int)).toSF)) :: (8, .u (fI (((p1.1 + p1.2) / 2 : Nat) : Int))) :: []) hmix s (by kernel_rfl)
        (obs_cons (ok_move) <| obs_cons (ok_move) <| obs_cons (ok_addI .i64 (((p1.1 : Nat) : Int)) (((p1.2 : Nat) : Int)) (((p1.1 + p1.2 : Nat)) : Int) (fun _ _ h => h) (fun _ _ h => h) (wrap64 _ _ (by omega) (by omega))) <| obs_cons (ok_quoI .i64 (((p1.1 + p1.2 : Nat) : Int)) (2) ((((p1.1 + p1.2) / 2 : Nat)) : Int) (fun _ _ h => h) (fun _ _ h => h) (by decide) (wrap64 _ _ (by rw [Int.tdiv_eq_ediv_of_nonneg (by omega)]; omega) (by omega))) <| obs_cons (ok_assign) <| obs_nil) fun a w9 s => ?_
      refine tail_end rfl ?_
      refine wpIn_seq ?_
      refine region_go 4 ((35, .s ((fQN (p)).toSF)) :: (36, .s ((fQN (q)).toSF)) :: (37, .s ((fI (((p1.1 + p1.2) / 2 : Nat) : Int)).toSF)) :: (38, .u (UF.eq (.bool (decide (S ≤ (p1.1 + p1.2) / 2))))) :: []) hmix s (by kernel_rfl)
        (obs_cons (ok_ldW (f := fQN (p)) 3 (by kernel_rfl) (hz := qn_len _)) <| obs_cons (ok_ldW (f := fQN (q)) 3 (by kernel_rfl) (hz := qn_len _)) <| obs_cons (ok_move) <| obs_cons (ok_call3 wide_wide en_74 (fun u0 u1 u2 W hb (h0 : QNp (p) u0 W) (h1 : QNp (q) u1 W) (h2 : u2 = .int .i64 (((p1.1 + p1.2) / 2 : Nat) : Int)) => ret_cast (r7room_q (M := 200) h0 h1 h2 hp hq (by omega) (by omega)) (by rw [roomB_least hS]; rfl))) <| obs_nil) fun a w10 s => ?_
      refine tail_end rfl ?_
      refine StS.cond s (decide (S ≤ (p1.1 + p1.2) / 2)) (fun _ _ h => h) (fun e => ?_) (fun e => ?_)
      · have e3 : S ≤ (p1.1 + p1.2) / 2 := of_decide_eq_true e
        replace s := s.drop [6]
        refine region_go 2 ((39, .s ((fI (((p1.1 + p1.2) / 2 : Nat) : Int)).toSF)) :: (6, .u (fI (((p1.1 + p1.2) / 2 : Nat) : Int))) :: []) hmix s (by kernel_rfl)
          (obs_cons (ok_move) <| obs_cons (ok_assign) <| obs_nil) fun a w11 s => ?_
        refine tail_end rfl ?_
        exact ⟨(p1.1, (p1.1 + p1.2) / 2), ⟨by omega, by omega, by show (p1.1 + p1.2) / 2 ≤ _; omega⟩, (by show (p1.1 + p1.2) / 2 - p1.1 < p1.2 - p1.1; omega), s.keepK _ (List.forall_mem_cons.2 ⟨.tail _ (.tail _ (.tail _ (.tail _ (.head _)))), List.forall_mem_cons.2 ⟨.head _, List.forall_mem_nil _⟩⟩)⟩
      · have e3 : ¬ S ≤ (p1.1 + p1.2) / 2 := of_decide_eq_false e
        replace s := s.drop [7]
        refine region_go 3 ((40, .s ((fI (((p1.1 + p1.2) / 2 : Nat) : Int)).toSF)) :: (41, .s ((fI (((p1.1 + p1.2) / 2 + 1 : Nat) : Int)).toSF)) :: (7, .u (fI (((p1.1 + p1.2) / 2 + 1 : Nat) : Int))) :: []) hmix s (by kernel_rfl)
          (obs_cons (ok_move) <| obs_cons (ok_addI .i64 ((((p1.1 + p1.2) / 2 : Nat) : Int)) (1) ((((p1.1 + p1.2) / 2 + 1 : Nat)) : Int) (fun _ _ h => h) (fun _ _ h => h) (wrap64 _ _ (by omega) (by omega))) <| obs_cons (ok_assign) <| obs_nil) fun a w12 s => ?_
        refine tail_end rfl ?_
        exact ⟨((p1.1 + p1.2) / 2 + 1, p1.2), ⟨by show (p1.1 + p1.2) / 2 + 1 ≤ S; omega, by omega, by omega⟩, (by show p1.2 - ((p1.1 + p1.2) / 2 + 1) < p1.2 - p1.1; omega), s.keepK _ (List.forall_mem_cons.2 ⟨.head _, List.forall_mem_cons.2 ⟨.tail _ (.tail _ (.tail _ (.tail _ (.head _)))), List.forall_mem_nil _⟩⟩)⟩
    · have e2 : ¬ p1.1 < p1.2 := by have := of_decide_eq_false e; omega
      have hsS : p1.1 = S := by omega
      refine wpIn_exit ?_
      refine wpIn_seq ?_
      refine region_go 1 ((42, .u (fNV ((0 : Int)))) :: []) hmix s (by kernel_rfl)
        (obs_cons (ok_call1 wide_wide en_14 (fun u0 W hb (h0 : u0 = .int .i64 (0)) => r5of_w 0 h0 (by decide))) <| obs_nil) fun a w13 s => ?_
      refine t_alloc (CU.len 2) (cs := [.bool false, .slice none 0 0]) (by kernel_rfl) rfl s (by kernel_rfl) (fun W => rfl) rfl fun b9 a w s => ?_
      refine t_store (CU.agg (fNV ((0 : Int)))) ((fNV ((0 : Int))).toSF) rfl s (by kernel_rfl) rfl rfl rfl (fun _ _ h => h) (fun _ _ h => h) (nv_store) fun a w s => ?_
      refine tail_end rfl ?_
      refine wpIn_seq ?_
      refine wpIn_block ?_
      refine wpIn_seq ?_
      refine region_go 4 ((44, .s ((fQN (p)).toSF)) :: (45, .s ((UF.eq (.int .i64 ((p.num.sign)))).toSF)) :: (46, .s ((UF.eq (.bool (decide (0 ≤ p)))).toSF)) :: (43, .u (UF.eq (.bool (decide (0 ≤ p))))) :: []) hmix s (by kernel_rfl)
        (obs_cons (ok_ldW (f := fQN (p)) 3 (by kernel_rfl) (hz := qn_len _)) <| obs_cons (ok_call1 wide_wide en_16 (fun u0 W hb (h0 : QNp (p) u0 W) => r7sign_q (QNp.rv h0 hp) (by omega))) <| obs_cons (ok_cmpI .i64 ((p.num.sign)) 0 (decide (0 ≤ p)) (fun _ _ h => h) (fun _ _ h => h) (by exact sign_ge p _ rfl) rfl) <| obs_cons (ok_assign) <| obs_nil) fun a w14 s => ?_
      refine tail_end rfl ?_
      refine StS.cond s (decide (0 ≤ p)) (fun _ _ h => h) (fun e => ?_) (fun e => ?_)
      · have e4 : 0 ≤ p := of_decide_eq_true e
        have hv : mkRat ((fl (p * twoP S)) + 1) (2 ^ S) = btw p q S := by unfold btw; rw [if_neg (by grind), if_neg (by grind)]; rfl
        have hnew : ∀ W u0 u1, UV W (m + 200 + 1) u0 ((fl (p * twoP S)) + 1) → NatV W u1 (2 ^ S) → Calls Tryz.prog 21 #[u0, u1] W (Ret W (fTup2 (fQN (btw p q S)) UF.any).toSF) := fun W u0 u1 h0 h1 => by
          have := r7new_v h0 (NatV.lv (m := m + 200 + 1) h1 (Nat.lt_of_le_of_lt (two_pow_BB (M := 200) (show S ≤ 32 * 200 by omega)) (Nat.pow_lt_pow_right (by unfold BB; decide) (by omega)))) (by omega)
          rw [hv] at this
          exact this.mono fun e w' ⟨v, e1, ⟨x, y, e2, h2, _⟩, hb⟩ => ⟨v, e1, ⟨x, y, e2, h2, trivial⟩, hb⟩
        refine region_go 3 ((47, .s ((fQN (p)).toSF)) :: (48, .s ((fI ((p1.1 : Nat) : Int)).toSF)) :: (49, .u (fNV (((fl (p * twoP S)) + 1)))) :: []) hmix s (by kernel_rfl)
          (obs_cons (ok_ldW (f := fQN (p)) 3 (by kernel_rfl) (hz := qn_len _)) <| obs_cons (ok_move) <| obs_cons (ok_call2 wide_wide en_75 (fun u0 u1 W hb (h0 : QNp (p) u0 W) (h1 : u1 = .int .i64 ((p1.1 : Nat) : Int)) => r7above_q (M := 200) h0 (by rw [hsS] at h1; exact h1) hp (by omega) (by omega))) <| obs_nil) fun a w15 s => ?_
        refine t_store (CU.agg (fNV (((fl (p * twoP S)) + 1)))) ((fNV (((fl (p * twoP S)) + 1))).toSF) rfl s (by kernel_rfl) rfl rfl rfl (nv_len _) (fun _ _ h => h) (nv_store) fun a w s => ?_
        refine tail_end rfl ?_
        refine wpIn_seq ?_
        have so := s.old; have sg := s.gr
        refine region_goA2 (fun i => [7].contains i) [⟨8, 10, 27, [.bool false, .slice none 0 0, .slice none 0 0], SF.newBox w 27 (CU.len 3)⟩] 9 ((60, .s ((fNV (((fl (p * twoP S)) + 1))).toSF)) :: (61, .s ((fNat (1)).toSF)) :: (62, .s ((fI ((p1.1 : Nat) : Int)).toSF)) :: (63, .s ((fNat (2 ^ S)).toSF)) :: (64, .s ((fTup2 (fQN ((btw p q S))) (UF.any)).toSF)) :: (59, .s ((fTup2 (fQN ((btw p q S))) (UF.any)).toSF)) :: (65, .u (fQN ((btw p q S)))) :: (10, .s (SF.newBox w 27 (CU.len 3))) :: []) hmix s (List.forall_mem_cons.2 ⟨⟨by show 8 < 9; decide, .tail _ (.tail _ (.tail _ (.tail _ (.tail _ (.tail _ (.tail _ (.head _))))))), ⟨_, _, _, rfl⟩, by kernel_rfl, own_new (fun _ => rfl) rfl⟩, List.forall_mem_nil _⟩) (by kernel_rfl)
          (obs_cons (ok_ldW (f := fNV (((fl (p * twoP S)) + 1))) 2 (by kernel_rfl) (hz := nv_len _)) <| obs_cons (ok_slice1 (fun u W (hu : u = .int .u32 1) => sl_one hu)) <| obs_cons (ok_move) <| obs_cons (ok_call2 wide_wide en_13 (fun u0 u1 W hb (h0 : NatV W u0 (1)) (h1 : u1 = .int .i64 ((p1.1 : Nat) : Int)) => hup W u0 u1 h0 (by rw [hsS] at h1; exact h1))) <| obs_cons (ok_call2 wide_wide en_21 (fun u0 u1 W hb (h0 : NV W u0 (((fl (p * twoP S)) + 1))) (h1 : NatV W u1 (2 ^ S)) => hnew W u0 u1 (NV.uv' h0 (fl_bd hp (show S ≤ 32 * 200 by omega))) h1)) <| obs_cons (ok_move) <| obs_cons (ok_ext20 (A := (fQN ((btw p q S))).toSF) (B := (UF.any).toSF) (fun _ _ h => h)) <| obs_cons (ok_ext21 (A := (fQN ((btw p q S))).toSF) (B := (UF.any).toSF) (fun _ _ h => h)) <| obs_cons (ok_alloc (cs := [.bool false, .slice none 0 0, .slice none 0 0]) (by kernel_rfl) (own_new (fun _ => rfl) rfl)) <| obs_nil) fun Q' hQ a w16 s hr hd => ?_
        obtain ⟨b10, _, e10, s⟩ := s.adoptA false 10 (hr (_, _) (.tail _ (.tail _ (.tail _ (.tail _ (.tail _ (.tail _ (.tail _ (.head _))))))))) sg (fun y hy => .inl (so y hy))
        refine t_store (CU.agg (fQN ((btw p q S)))) ((fQN ((btw p q S))).toSF) rfl s (by kernel_rfl) rfl rfl rfl (fun _ _ h => h) (fun _ _ h => h) (qn_store) fun a w s => ?_
        refine t_set UF.any rfl s (by kernel_rfl) (fun _ _ _ => trivial) fun a w s => ?_
        refine tail_end rfl (hQ _ _ ?_)
        refine wpIn_seq ?_
        refine region_go 1 ((67, .u (fQN ((btw p q S)))) :: []) hmix s (by kernel_rfl)
          (obs_cons (ok_ldW (f := fQN ((btw p q S))) 3 (by kernel_rfl) (hz := qn_len _)) <| obs_nil) fun a w17 s => ?_
        refine t_store (CU.agg (fQN ((btw p q S)))) ((fQN ((btw p q S))).toSF) rfl s (by kernel_rfl) rfl rfl rfl (fun _ _ h => h) (fun _ _ h => h) (qn_store) fun a w s => ?_
        refine t_set (UF.eq (.bool true)) rfl s (by kernel_rfl) (fun _ _ h => h) fun a w s => ?_
        refine tail_end rfl ?_
        refine wpIn_ret ?_
        exact StS.resCT s (CU.agg (fQN (btw p q S))) rfl (by kernel_rfl) rfl rfl (qn_len _) (fun cs v W h1 h2 => ⟨_, _, rfl, h1, h2⟩)
      · have e4 : ¬ 0 ≤ p := of_decide_eq_false e
        refine wpIn_seq ?_
        refine region_go 4 ((51, .s ((fQN (q)).toSF)) :: (52, .s ((UF.eq (.int .i64 ((q.num.sign)))).toSF)) :: (53, .s ((UF.eq (.bool (decide (q ≤ 0)))).toSF)) :: (50, .u (UF.eq (.bool (decide (q ≤ 0))))) :: []) hmix s (by kernel_rfl)
          (obs_cons (ok_ldW (f := fQN (q)) 3 (by kernel_rfl) (hz := qn_len _)) <| obs_cons (ok_call1 wide_wide en_16 (fun u0 W hb (h0 : QNp (q) u0 W) => r7sign_q (QNp.rv h0 hq) (by omega))) <| obs_cons (ok_cmpI .i64 ((q.num.sign)) 0 (decide (q ≤ 0)) (fun _ _ h => h) (fun _ _ h => h) (by exact sign_le q _ rfl) rfl) <| obs_cons (ok_assign) <| obs_nil) fun a w18 s => ?_
        refine tail_end rfl ?_
        refine StS.cond s (decide (q ≤ 0)) (fun _ _ h => h) (fun e => ?_) (fun e => ?_)
        · have e5 : q ≤ 0 := of_decide_eq_true e
          have hv : mkRat (-((fl ((-q) * twoP S)) + 1)) (2 ^ S) = btw p q S := by unfold btw; rw [if_pos e5, upto_neg]; rfl
          have hnew : ∀ W u0 u1, UV W (m + 200 + 1) u0 (-((fl ((-q) * twoP S)) + 1)) → NatV W u1 (2 ^ S) → Calls Tryz.prog 21 #[u0, u1] W (Ret W (fTup2 (fQN (btw p q S)) UF.any).toSF) := fun W u0 u1 h0 h1 => by
            have := r7new_v h0 (NatV.lv (m := m + 200 + 1) h1 (Nat.lt_of_le_of_lt (two_pow_BB (M := 200) (show S ≤ 32 * 200 by omega)) (Nat.pow_lt_pow_right (by unfold BB; decide) (by omega)))) (by omega)
            rw [hv] at this
            exact this.mono fun e w' ⟨v, e1, ⟨x, y, e2, h2, _⟩, hb⟩ => ⟨v, e1, ⟨x, y, e2, h2, trivial⟩, hb⟩
          refine region_go 5 ((54, .s ((fQN (q)).toSF)) :: (55, .s ((fQN ((-q))).toSF)) :: (56, .s ((fI ((p1.1 : Nat) : Int)).toSF)) :: (57, .s ((fNV (((fl ((-q) * twoP S)) + 1))).toSF)) :: (58, .u (fNV ((-((fl ((-q) * twoP S)) + 1))))) :: []) hmix s (by kernel_rfl)
            (obs_cons (ok_ldW (f := fQN (q)) 3 (by kernel_rfl) (hz := qn_len _)) <| obs_cons (ok_call1 wide_wide en_32 (fun u0 W hb (h0 : QNp (q) u0 W) => r7neg_q (QNp.rv h0 hq) (by omega) hm0)) <| obs_cons (ok_move) <| obs_cons (ok_call2 wide_wide en_75 (fun u0 u1 W hb (h0 : QNp ((-q)) u0 W) (h1 : u1 = .int .i64 ((p1.1 : Nat) : Int)) => r7above_q (M := 200) h0 (by rw [hsS] at h1; exact h1) hq.neg (by omega) (by omega))) <| obs_cons (ok_call1 wide_wide en_70 (fun u0 W hb (h0 : NV W u0 (((fl ((-q) * twoP S)) + 1))) => r5neg_v (NV.uv' h0 (fl_bd hq.neg (show S ≤ 32 * 200 by omega))) (by omega))) <| obs_nil) fun a w19 s => ?_
          refine t_store (CU.agg (fNV ((-((fl ((-q) * twoP S)) + 1))))) ((fNV ((-((fl ((-q) * twoP S)) + 1)))).toSF) rfl s (by kernel_rfl) rfl rfl rfl (nv_len _) (fun _ _ h => h) (nv_store) fun a w s => ?_
          refine tail_end rfl ?_
          refine wpIn_seq ?_
          have so := s.old; have sg := s.gr
          refine region_goA2 (fun i => [7].contains i) [⟨8, 10, 27, [.bool false, .slice none 0 0, .slice none 0 0], SF.newBox w 27 (CU.len 3)⟩] 9 ((60, .s ((fNV ((-((fl ((-q) * twoP S)) + 1)))).toSF)) :: (61, .s ((fNat (1)).toSF)) :: (62, .s ((fI ((p1.1 : Nat) : Int)).toSF)) :: (63, .s ((fNat (2 ^ S)).toSF)) :: (64, .s ((fTup2 (fQN ((btw p q S))) (UF.any)).toSF)) :: (59, .s ((fTup2 (fQN ((btw p q S))) (UF.any)).toSF)) :: (65, .u (fQN ((btw p q S)))) :: (10, .s (SF.newBox w 27 (CU.len 3))) :: []) hmix s (List.forall_mem_cons.2 ⟨⟨by show 8 < 9; decide, .tail _ (.tail _ (.tail _ (.tail _ (.tail _ (.tail _ (.tail _ (.head _))))))), ⟨_, _, _, rfl⟩, by kernel_rfl, own_new (fun _ => rfl) rfl⟩, List.forall_mem_nil _⟩) (by kernel_rfl)
            (obs_cons (ok_ldW (f := fNV ((-((fl ((-q) * twoP S)) + 1)))) 2 (by kernel_rfl) (hz := nv_len _)) <| obs_cons (ok_slice1 (fun u W (hu : u = .int .u32 1) => sl_one hu)) <| obs_cons (ok_move) <| obs_cons (ok_call2 wide_wide en_13 (fun u0 u1 W hb (h0 : NatV W u0 (1)) (h1 : u1 = .int .i64 ((p1.1 : Nat) : Int)) => hup W u0 u1 h0 (by rw [hsS] at h1; exact h1))) <| obs_cons (ok_call2 wide_wide en_21 (fun u0 u1 W hb (h0 : NV W u0 ((-((fl ((-q) * twoP S)) + 1)))) (h1 : NatV W u1 (2 ^ S)) => hnew W u0 u1 (NV.uv' h0 (fl_bd hq.neg (show S ≤ 32 * 200 by omega)).neg) h1)) <| obs_cons (ok_move) <| obs_cons (ok_ext20 (A := (fQN ((btw p q S))).toSF) (B := (UF.any).toSF) (fun _ _ h => h)) <| obs_cons (ok_ext21 (A := (fQN ((btw p q S))).toSF) (B := (UF.any).toSF) (fun _ _ h => h)) <| obs_cons (ok_alloc (cs := [.bool false, .slice none 0 0, .slice none 0 0]) (by kernel_rfl) (own_new (fun _ => rfl) rfl)) <| obs_nil) fun Q' hQ a w20 s hr hd => ?_
          obtain ⟨b10, _, e10, s⟩ := s.adoptA false 10 (hr (_, _) (.tail _ (.tail _ (.tail _ (.tail _ (.tail _ (.tail _ (.tail _ (.head _))))))))) sg (fun y hy => .inl (so y hy))
          refine t_store (CU.agg (fQN ((btw p q S)))) ((fQN ((btw p q S))).toSF) rfl s (by kernel_rfl) rfl rfl rfl (fun _ _ h => h) (fun _ _ h => h) (qn_store) fun a w s => ?_
          refine t_set UF.any rfl s (by kernel_rfl) (fun _ _ _ => trivial) fun a w s => ?_
          refine tail_end rfl (hQ _ _ ?_)
          refine wpIn_seq ?_
          refine region_go 1 ((67, .u (fQN ((btw p q S)))) :: []) hmix s (by kernel_rfl)
            (obs_cons (ok_ldW (f := fQN ((btw p q S))) 3 (by kernel_rfl) (hz := qn_len _)) <| obs_nil) fun a w21 s => ?_
          refine t_store (CU.agg (fQN ((btw p q S)))) ((fQN ((btw p q S))).toSF) rfl s (by kernel_rfl) rfl rfl rfl (fun _ _ h => h) (fun _ _ h => h) (qn_store) fun a w s => ?_
          refine t_set (UF.eq (.bool true)) rfl s (by kernel_rfl) (fun _ _ h => h) fun a w s => ?_
          refine tail_end rfl ?_
          refine wpIn_ret ?_
          exact StS.resCT s (CU.agg (fQN (btw p q S))) rfl (by kernel_rfl) rfl rfl (qn_len _) (fun cs v W h1 h2 => ⟨_, _, rfl, h1, h2⟩)
        · have e5 : ¬ q ≤ 0 := of_decide_eq_false e
          have hv : mkRat (0 : Int) (2 ^ S) = btw p q S := by unfold btw; rw [if_neg e5, if_pos (by grind), Rat.zero_mkRat]
          have hnew : ∀ W u0 u1, UV W (m + 200 + 1) u0 ((0 : Int)) → NatV W u1 (2 ^ S) → Calls Tryz.prog 21 #[u0, u1] W (Ret W (fTup2 (fQN (btw p q S)) UF.any).toSF) := fun W u0 u1 h0 h1 => by
            have := r7new_v h0 (NatV.lv (m := m + 200 + 1) h1 (Nat.lt_of_le_of_lt (two_pow_BB (M := 200) (show S ≤ 32 * 200 by omega)) (Nat.pow_lt_pow_right (by unfold BB; decide) (by omega)))) (by omega)
            rw [hv] at this
            exact this.mono fun e w' ⟨v, e1, ⟨x, y, e2, h2, _⟩, hb⟩ => ⟨v, e1, ⟨x, y, e2, h2, trivial⟩, hb⟩
          refine wpIn_skip ?_
          refine wpIn_seq ?_
          have so := s.old; have sg := s.gr
          refine region_goA2 (fun i => [7].contains i) [⟨8, 10, 27, [.bool false, .slice none 0 0, .slice none 0 0], SF.newBox w18 27 (CU.len 3)⟩] 9 ((60, .s ((fNV ((0 : Int))).toSF)) :: (61, .s ((fNat (1)).toSF)) :: (62, .s ((fI ((p1.1 : Nat) : Int)).toSF)) :: (63, .s ((fNat (2 ^ S)).toSF)) :: (64, .s ((fTup2 (fQN ((btw p q S))) (UF.any)).toSF)) :: (59, .s ((fTup2 (fQN ((btw p q S))) (UF.any)).toSF)) :: (65, .u (fQN ((btw p q S)))) :: (10, .s (SF.newBox w18 27 (CU.len 3))) :: []) hmix s (List.forall_mem_cons.2 ⟨⟨by show 8 < 9; decide, .tail _ (.tail _ (.tail _ (.tail _ (.tail _ (.tail _ (.tail _ (.head _))))))), ⟨_, _, _, rfl⟩, by kernel_rfl, own_new (fun _ => rfl) rfl⟩, List.forall_mem_nil _⟩) (by kernel_rfl)
            (obs_cons (ok_ldW (f := fNV ((0 : Int))) 2 (by kernel_rfl) (hz := nv_len _)) <| obs_cons (ok_slice1 (fun u W (hu : u = .int .u32 1) => sl_one hu)) <| obs_cons (ok_move) <| obs_cons (ok_call2 wide_wide en_13 (fun u0 u1 W hb (h0 : NatV W u0 (1)) (h1 : u1 = .int .i64 ((p1.1 : Nat) : Int)) => hup W u0 u1 h0 (by rw [hsS] at h1; exact h1))) <| obs_cons (ok_call2 wide_wide en_21 (fun u0 u1 W hb (h0 : NV W u0 ((0 : Int))) (h1 : NatV W u1 (2 ^ S)) => hnew W u0 u1 (NV.uv' h0 hb0) h1)) <| obs_cons (ok_move) <| obs_cons (ok_ext20 (A := (fQN ((btw p q S))).toSF) (B := (UF.any).toSF) (fun _ _ h => h)) <| obs_cons (ok_ext21 (A := (fQN ((btw p q S))).toSF) (B := (UF.any).toSF) (fun _ _ h => h)) <| obs_cons (ok_alloc (cs := [.bool false, .slice none 0 0, .slice none 0 0]) (by kernel_rfl) (own_new (fun _ => rfl) rfl)) <| obs_nil) fun Q' hQ a w22 s hr hd => ?_
          obtain ⟨b10, _, e10, s⟩ := s.adoptA false 10 (hr (_, _) (.tail _ (.tail _ (.tail _ (.tail _ (.tail _ (.tail _ (.tail _ (.head _))))))))) sg (fun y hy => .inl (so y hy))
          refine t_store (CU.agg (fQN ((btw p q S)))) ((fQN ((btw p q S))).toSF) rfl s (by kernel_rfl) rfl rfl rfl (fun _ _ h => h) (fun _ _ h => h) (qn_store) fun a w s => ?_
          refine t_set UF.any rfl s (by kernel_rfl) (fun _ _ _ => trivial) fun a w s => ?_
          refine tail_end rfl (hQ _ _ ?_)
          refine wpIn_seq ?_
          refine region_go 1 ((67, .u (fQN ((btw p q S)))) :: []) hmix s (by kernel_rfl)
            (obs_cons (ok_ldW (f := fQN ((btw p q S))) 3 (by kernel_rfl) (hz := qn_len _)) <| obs_nil) fun a w23 s => ?_
          refine t_store (CU.agg (fQN ((btw p q S)))) ((fQN ((btw p q S))).toSF) rfl s (by kernel_rfl) rfl rfl rfl (fun _ _ h => h) (fun _ _ h => h) (qn_store) fun a w s => ?_
          refine t_set (UF.eq (.bool true)) rfl s (by kernel_rfl) (fun _ _ h => h) fun a w s => ?_
          refine tail_end rfl ?_
          refine wpIn_ret ?_
          exact StS.resCT s (CU.agg (fQN (btw p q S))) rfl (by kernel_rfl) rfl rfl (qn_len _) (fun cs v W h1 h2 => ⟨_, _, rfl, h1, h2⟩)

end Go.Proofs.Wd


namespace Go.Proofs.Wd
open Go.RowKit Lb

set_option maxRecDepth 100000 in
theorem rabove_q {W : World} {m : Nat} {v : Value} {q : Rat} (h : RVp m q v W) (hm : m ≤ 300) (hm0 : 0 < m) (hT : Tab W) : Calls Tryz.prog 45 #[v] W (Ret W (fNV ((q.num / (q.den : Int)) + 1)).toSF) := by
  have hq : QB q m := h.qb hm0
  have hb1 : Bd (1 : Int) (m + 1) := Nat.lt_of_lt_of_le (show (1 : Int).natAbs < BB ^ 1 by decide) (Nat.pow_le_pow_right BB_pos (by omega))
  have hbf : Bd (q.num / (q.den : Int)) (m + 1) := by
    have h1 := fl_bd' hq (show 0 ≤ 32 * 0 by omega)
    have h2 : fl (q * twoP 0) = q.num / (q.den : Int) := by unfold twoP fl; rw [show q * ((2 ^ 0 : Nat) : Rat) = q by rw [Nat.pow_zero]; exact Rat.mul_one q]
    rw [h2] at h1
    exact h1.mono (by omega)
  refine run_st [(fRV m q).toSF] Tryz.func45 rfl (by kernel_rfl) ⟨h, trivial⟩ fun a s => ?_
  refine wpIn_seq ?_
  refine region_go 0 [] hmix s (by kernel_rfl)
    obs_nil fun a w1 s => ?_
  refine t_box (CU.agg (fRV (m) (q))) rfl s (by kernel_rfl) (fun v W h => rv_box h) fun b1 a w s => ?_
  refine t_alloc (CU.len 2) (cs := [.bool false, .slice none 0 0]) (by kernel_rfl) rfl s (by kernel_rfl) (fun W => rfl) rfl fun b2 a w s => ?_
  refine tail_end rfl ?_
  refine wpIn_seq ?_
  refine region_go 5 ((3, .s ((fRV (m) (q)).toSF)) :: (4, .s ((fNV ((q.num / (q.den : Int)))).toSF)) :: (5, .s ((fNV ((1 : Int))).toSF)) :: (6, .s (fISV (m + 1) [(q.num / (q.den : Int)), (1 : Int)])) :: (7, .u (fNV (((q.num / (q.den : Int)) + 1)))) :: []) hmix s (by kernel_rfl)
    (obs_cons (ok_ldW (f := fRV m q) 3 (by kernel_rfl) (hz := rv_len _ _)) <| obs_cons (ok_call1 wide_wide en_40 (fun u0 W hb (h0 : RVp (m) (q) u0 W) => rFloor_q h0 hm hm0 (hT.below (s.up hb)))) <| obs_cons (ok_call1 wide_wide en_68 (fun u0 W hb (h0 : u0 = .int .i64 (1)) => by subst h0; exact of_v 1 (by decide))) <| obs_cons (ok_slice2 (fun u v W (hu : NV W u ((q.num / (q.den : Int)))) (hv : NV W v ((1 : Int))) => sl_int2 (NV.uv' hu hbf) (NV.uv' hv hb1))) <| obs_cons (ok_call1 wide_wide en_80 (fun u0 W hb (h0 : ISV W (m + 1) u0 [(q.num / (q.den : Int)), (1 : Int)]) => add_w h0 (by omega) (by simp) (by simp))) <| obs_nil) fun a w2 s => ?_
  refine t_store (CU.agg (fNV (((q.num / (q.den : Int)) + 1)))) ((fNV (((q.num / (q.den : Int)) + 1))).toSF) rfl s (by kernel_rfl) rfl rfl rfl (fun _ _ h => h) (fun _ _ h => h) (nv_store) fun a w s => ?_
  refine tail_end rfl ?_
  refine wpIn_ret ?_
  exact StS.resC s (CU.agg (fNV ((q.num / (q.den : Int)) + 1))) rfl (by kernel_rfl) rfl rfl (nv_len _) (fun cs W h => h)

theorem doubled_any (c0 c1 c2 : Value) (w : World) : Calls Tryz.prog 44 #[.agg #[c0, c1, c2]] w fun e w' => e = .returned (.func (.func 79) #[] #[.pointer (some ⟨w.heap.size, 0, none⟩)]) ∧ w' = w.alloc (.cells #[c0, c1, c2] 27) := by
  go_enter Tryz.func44, Tryz.ntmps44
  go_wp2
  go_ret
  exact ⟨rfl, rfl⟩
theorem rv_noLimb {m : Nat} {q : Rat} {cs : List Value} {W : World} (h : RVp m q (.agg cs.toArray) W) : cs.all noLimb = true := by
  have := (rv_box (v := .agg cs.toArray) h).2
  simpa [Value.cells] using this
theorem doubled_v {W : World} {m : Nat} {v : Value} {q : Rat} (h : RVp m q v W) : Calls Tryz.prog 44 #[v] W (Ret W (fClos W 79 27 (CU.agg (fRV m q)))) := by
  obtain ⟨s, A, n, c, D, i, j, rfl⟩ := rv_cells h
  refine (doubled_any _ _ _ W).mono ?_
  rintro e w' ⟨rfl, rfl⟩
  have hb := alloc_b W (.cells #[.bool s, .slice A n c, .slice D i j] 27)
  exact ⟨_, rfl, ⟨W.heap.size, [.bool s, .slice A n c, .slice D i j], rfl, Nat.le_refl _, World.alloc_heap_new W _, h.below hb, rfl⟩, hb⟩
theorem qn_mul2 (q : Rat) (k : Nat) : mkRat ((q * twoP k).num * 2) (q * twoP k).den = q * twoP (k + 1) := by
  rw [twoP_succ, Rat.mkRat_eq_div, Rat.intCast_mul, Rat.div_def, Rat.mul_comm _ ((2 : Int) : Rat), Rat.mul_assoc, ← Rat.div_def, ← Rat.mkRat_eq_div, Rat.mkRat_self]
  have : ((2 : Int) : Rat) = 2 := rfl
  rw [this]
  grind
theorem sg_two (z : Int) : (if decide (z < 0) then -((z.natAbs * 2 : Nat) : Int) else ((z.natAbs * 2 : Nat) : Int)) = z * 2 := by
  by_cases h : z < 0
  · rw [decide_eq_true h, if_pos rfl]; omega
  · rw [decide_eq_false h, if_neg (by decide)]; omega
theorem sp_dbl {m : Nat} {q : Rat} (hq : QB q m) (v : Value) (W : World) (h : (fNat (q.num.natAbs * 2)).p v W) : v.cells.size = 1 ∧ (∀ u, u ∈ v.cells.toList → u.oneCell' = true) ∧ v.cells.toList.all noLimb = true ∧ ∀ cs, (CU.agg (fQN q)).p cs W → 1 + 1 ≤ cs.length ∧ (CU.agg (fQV (m + 1) (q.num * 2) q.den)).p (splice cs 1 v.cells.toList) W := by
  obtain ⟨e1, e2, e3⟩ := nat_plain h
  rw [e1]
  refine ⟨rfl, fun u hu => by simp at hu; rw [hu]; exact e2, by simp [e3], fun cs hc => ?_⟩
  obtain ⟨b, s, t, ec, h1, h2⟩ := hc
  obtain rfl := cells3 ec
  refine ⟨by simp, ?_⟩
  obtain ⟨A, n, c, rfl, rfl⟩ := NV.form h1
  have h3 : q.num.natAbs * 2 < BB ^ (m + 1) := by
    rw [Nat.pow_succ]
    exact Nat.mul_lt_mul_of_lt_of_le hq.1 (by unfold BB; decide) (by decide)
  obtain ⟨cells, hb1, hb2⟩ := b_int (s := decide (q.num < 0)) rfl h h3
  obtain ⟨A2, n2, c2, rfl⟩ := NatV.form h
  rw [bInt] at hb1
  cases hb1
  rw [sg_two] at hb2
  exact ⟨_, _, _, rfl, hb2, NatV.lv h2 (Nat.lt_of_lt_of_le hq.2 (Nat.pow_le_pow_right BB_pos (by omega)))⟩
theorem Tab.bls2 {W w : World} {S : Nat → Prop} (hT : Tab W) (hg : BlS S W w) (hS : ¬ S 0) : Tab w := fun j hj => by
  have h1 := hT j hj
  exact (World.cell?_of_block (a := ⟨0, j, none⟩) (hg.block _ (lt_of_cell h1) hS)).trans h1
theorem Tab.rnd {W w : World} {N : Nat} {C : Nat → Prop} (hT : Tab W) (hr : Rnd N C W w) (hN : 0 < N) (hC : ¬ C 0) : Tab w := fun j hj => by
  have h1 := hT j hj
  exact (World.cell?_of_block (a := ⟨0, j, none⟩) (hr.low _ hN hC)).trans h1

set_option maxRecDepth 100000 in
theorem doubled_it {w : World} {m M N b : Nat} {cs : List Value} {q : Rat} {C : Nat → Prop} (hh : w.heap[b]? = some (.cells cs.toArray 27 (0, 0))) (hc : RVp m q (.agg cs.toArray) w) (hm0 : 0 < m) (hmM : m ≤ M) (hM : M ≤ 300) (hNb : N ≤ 1000000) (hb : ∀ k, k ≤ N → QB (q * twoP k) M) (hT : Tab w) (hCl : ∀ k, C k → k < w.heap.size) (hCg : ¬ C 0) :
    ItC Tryz.prog 79 #[.pointer (some ⟨b, 0, none⟩)] (fun k => [fI ((k : Nat) : Int), fQN (q * twoP k)]) N True C w := by
  intro l J Z W hwW hbW hkW hJs hZs hend hround hJ0
  have hq : QB q m := hc.qb hm0
  have hb0 := hb
  have hgN : 0 < w.heap.size := lt_of_cell (hT 0 (by decide))
  have hhW : W.heap[b]? = some (.cells cs.toArray 27 (0, 0)) := (hbW.block b (Array.getElem?_eq_some_iff.1 hh).1).trans hh
  have hcW : RVp m q (.agg cs.toArray) W := (fRV m q).us _ _ _ hc hkW
  have hTW : Tab W := fun j hj => (hbW.cell (p := ⟨0, j, none⟩) hgN).trans (hT j hj)
  refine it_calls Tryz.func79 rfl ?_
  have s := st_begin (w := W) (fn := Tryz.f79) (args := #[.func (.yield l) #[] #[]] ++ #[.pointer (some ⟨b, 0, none⟩)]) noS [(0, UF.eq (.func (.yield l) #[] #[]))] [⟨1, 27, CU.agg (fRV m q), b, true⟩] (by kernel_rfl) (fun q hq => by obtain rfl := List.mem_singleton.1 hq; exact ⟨by simp, rfl⟩) ⟨⟨cs, rfl, .inl rfl, hhW, hcW, rv_noLimb hcW, fun y hy => by cases hy⟩, trivial⟩ (fun x hx => by obtain rfl := List.mem_singleton.1 hx; simp)
  generalize ({ tmps := #[.func (.yield l) #[] #[]] ++ #[.pointer (some ⟨b, 0, none⟩)] ++ Array.replicate (Tryz.f79.ntmps - (#[.func (.yield l) #[] #[]] ++ #[.pointer (some ⟨b, 0, none⟩)] : Array Value).size) undef, defers := [] } : Act) = a at s ⊢
  refine wpIn_seq ?_
  have so := s.old; have sg := s.gr
  refine region_goN 3 ((5, .s ((fRV (m) (q)).toSF)) :: (6, .s (SF.newBox W 59 (CU.agg (fQN (q))))) :: (3, .s (SF.newBox W 59 (CU.agg (fQN (q))))) :: []) hmix s (by kernel_rfl)
    (obs_cons (ok_ldW (f := fRV m q) 3 (by kernel_rfl) (hz := rv_len _ _)) <| obs_cons (ok_call1 wide_wide en_43 (fun u0 W hb (h0 : RVp (m) (q) u0 W) => (rof_q h0 (by omega) (hTW.below (s.gr.trans hb).below)).mono (Ret.to (newBox_old hb.size)))) <| obs_cons (ok_assign) <| obs_nil) fun a w1 s hr => ?_
  obtain ⟨b3, hB3, s⟩ := s.adopt false 3 (hr (_, _) (.tail _ (.tail _ (.head _)))) sg (fun y hy => .inl (so y hy))
  refine tail_end rfl ?_
  refine wpIn_seq ?_
  refine region_go 1 ((4, .u (UF.eq (.int .i64 (0)))) :: []) hmix s (by kernel_rfl)
    (obs_cons (ok_assign) <| obs_nil) fun a w2 s => ?_
  refine tail_end rfl ?_
  refine wpIn_block ?_
  have hJw : J 0 w2 := hJs 0 _ _ hJ0 ⟨s.gr.os, s.gr.tape, s.gr.output, s.gr.size, fun q hq => s.gr.block q hq (fun h => h), fun q o ho _ => (s.gr.block q (Array.getElem?_eq_some_iff.1 ho).1 (fun h => h)).trans ho, keepU_below s.gr.below⟩
  have hTw : Tab w2 := hTW.below s.gr.below
  have hW0 := s.gr.size
  have s := s.headB
  replace s := (s.keepK [(0, .u (UF.eq (.func (.yield l) #[] #[]))), (4, .u (fI ((0 : Nat) : Int)))] (List.forall_mem_cons.2 ⟨.tail _ (.head _), List.forall_mem_cons.2 ⟨.head _, List.forall_mem_nil _⟩⟩)).self (allU_spec (by kernel_rfl))
  have hq0 : q = q * twoP 0 := by unfold twoP; rw [Nat.pow_zero]; exact (Rat.mul_one q).symm
  refine loop_while (fun k a w => k ≤ N ∧ J k w ∧ Tab w ∧ W.heap.size ≤ w.heap.size ∧ StS (inB [⟨3, 59, CU.agg (fQN (q * twoP k)), b3, false⟩]) w [(0, .u (UF.eq (.func (.yield l) #[] #[]))), (4, .u (fI ((k : Nat) : Int)))] [⟨3, 59, CU.agg (fQN (q * twoP k)), b3, false⟩] Tryz.f79.ntmps [] a w) (fun k => N + 1 - k) 0 ⟨Nat.zero_le _, hJw, hTw, hW0, by rw [← hq0]; exact s⟩ fun k a w ⟨hk, hJ, hTw, hWs, s⟩ => ?_
  have s0 := s
  refine wpIn_seq ?_
  refine wpIn_seq ?_
  refine region_go 6 ((7, .u (UF.eq (.func (.yield l) #[] #[]))) :: (8, .u (fI ((k : Nat) : Int))) :: (9, .s (SF.pb b3 (CU.agg (fQN ((q * twoP k)))).cf)) :: (10, .s (SF.ptr (CU.agg (fQN ((q * twoP k)))).cf)) :: (11, .s (SF.ptr ((CU.agg (fQN ((q * twoP k)))).cf.at 0))) :: (12, .u (fQN ((q * twoP k)))) :: []) hmix s (by kernel_rfl)
    (obs_cons (ok_move) <| obs_cons (ok_move) <| obs_cons (ok_move) <| obs_cons (ok_nil (C := (CU.agg (fQN ((q * twoP k)))).cf)) <| obs_cons (ok_fld (C := (CU.agg (fQN ((q * twoP k)))).cf) 0 (by kernel_rfl)) <| obs_cons (ok_ldA (C := (CU.agg (fQN ((q * twoP k)))).cf) (k := 0) 3 (by kernel_rfl) (h := qn_whole)) <| obs_nil) fun a w3 s => ?_
  have hJ1 : J k w3 := hJs _ _ _ hJ (s0.itr_to s.gr (fun x hx _ => by obtain rfl := List.mem_singleton.1 hx; exact hB3) hWs)
  have hT1 : Tab w3 := hTw.bls2 s.gr (fun ⟨x, hx, e, _⟩ => by obtain rfl := List.mem_singleton.1 hx; exact absurd e (by show b3 ≠ _; omega))
  have hws := s.gr.size
  have hkN : k < N := Nat.lt_of_le_of_ne hk (fun e => hend trivial w3 (by rw [← e]; exact hJ1))
  refine t_yield rfl s (fun _ _ h => h) (by kernel_rfl) (allU_spec (by kernel_rfl)) (fun x hx => by obtain rfl := List.mem_singleton.1 hx; exact fun hc => absurd (hCl _ hc) (by show ¬ b3 < _; omega)) (hround k _ _ hkN hJ1 ⟨by simp, fun j f hj => ?_⟩) fun a w bv hr hbv s => ?_
  · match j, hj with
    | 0, hj => obtain rfl := Option.some.inj hj; rw [ev2_0]; exact s.at.sl 8
    | 1, hj => obtain rfl := Option.some.inj hj; rw [ev2_1]; exact s.at.sl 12
  have hT2 : Tab w := hT1.rnd hr hgN hCg
  refine tail_end rfl ?_
  refine StS.cond s bv (fun _ _ h => h) (fun e => ?_) (fun e => ?_)
  · have hJ2 : J (k + 1) w := by rcases hbv with ⟨_, hj⟩ | ⟨e2, _⟩; exact hj; rw [e] at e2; cases e2
    have s1 := s
    have hk1 : k + 1 ≤ N := hkN
    have hww := hr.size
    refine wpIn_skip ?_
    refine wpIn_seq ?_
    refine wpIn_block ?_
    refine wpIn_seq ?_
    refine region_go 12 ((16, .s ((UF.eq (.pointer (some ⟨b3, 0, none⟩))).toSF)) :: (17, .s (SF.pb b3 (CU.agg (fQN ((q * twoP k)))).cf)) :: (18, .s (SF.ptr (CU.agg (fQN ((q * twoP k)))).cf)) :: (19, .s (SF.ptr ((CU.agg (fQN ((q * twoP k)))).cf.at 0))) :: (20, .s (SF.ptr ((CU.agg (fQN ((q * twoP k)))).cf.at 0))) :: (21, .s (SF.ptr ((CU.agg (fQN ((q * twoP k)))).cf.at 1))) :: (22, .s ((fNat (((q * twoP k)).num.natAbs)).toSF)) :: (23, .u (fNat (((q * twoP k)).num.natAbs * 2))) :: (24, .s ((UF.eq (.pointer (some ⟨b3, 0, none⟩))).toSF)) :: (25, .s ((UF.eq (.pointer (some ⟨b3, 0, none⟩))).toSF)) :: (26, .s ((UF.eq (.pointer (some ⟨b3, 0, none⟩))).toSF)) :: (27, .u (UF.eq (.pointer (some ⟨b3, 1, none⟩)))) :: []) hmix s (by kernel_rfl)
      (obs_cons (ok_move (fun _ _ _ h => h.1)) <| obs_cons (ok_move) <| obs_cons (ok_nil (C := (CU.agg (fQN ((q * twoP k)))).cf)) <| obs_cons (ok_fld (C := (CU.agg (fQN ((q * twoP k)))).cf) 0 (by kernel_rfl)) <| obs_cons (ok_fldn (C := (CU.agg (fQN ((q * twoP k)))).cf) 0 0 (by kernel_rfl)) <| obs_cons (ok_fldn (C := (CU.agg (fQN ((q * twoP k)))).cf) 0 1 (by kernel_rfl)) <| obs_cons (ok_ld (C := (CU.agg (fQN ((q * twoP k)))).cf) (k := 1) (by kernel_rfl) (h := qn_abs)) <| obs_cons (ok_call2 wide_wide en_46 (fun u0 u1 W hb (h0 : NatV W u0 (((q * twoP k)).num.natAbs)) (h1 : u1 = .int .i64 (1)) => by subst h1; exact up1_v (NatV.lv h0 (hb0 k hk).1) (by omega))) <| obs_cons (ok_nilE (a := ⟨b3, 0, none⟩) (fun _ _ h => h)) <| obs_cons (ok_fldE (b := b3) (o := 0) 0 (by kernel_rfl) (fun _ _ h => h)) <| obs_cons (ok_fldE (b := b3) (o := 0) 0 (by kernel_rfl) (fun _ _ h => h)) <| obs_cons (ok_fldE (b := b3) (o := 0) 1 (by kernel_rfl) (fun _ _ h => h)) <| obs_nil) fun a w4 s => ?_
    refine t_storeP (c := 3) (o := 1) (kk := 1) (CU.agg (fQV ((M + 1)) (((q * twoP k).num * 2)) ((q * twoP k).den))) ((fNat (((q * twoP k)).num.natAbs * 2)).toSF) rfl s (by kernel_rfl) rfl rfl (fun _ _ h => h) (fun _ _ h => h) (sp_dbl (hb0 k hk)) fun a w s => ?_
    refine tail_end rfl ?_
    refine region_go 1 ((28, .u (UF.eq (.pointer (some ⟨b3, 0, none⟩)))) :: []) hmix s (by kernel_rfl)
      (obs_cons (ok_move (fun _ _ _ h => h.1)) <| obs_nil) fun a w5 s => ?_
    refine t_callS1 (c := 3) (CU.agg (fQN ((q * twoP (k + 1))))) (fB (decide (0 < (q * twoP k).den))) rfl wide_wide en_57 s (by kernel_rfl) rfl rfl (fun _ _ h => h) (fun cs h1 h2 => ?_) fun a w s => ?_
    · rw [← qn_mul2 q k]; exact rnorm_any h1 h2 (by omega) (hT2.bls2 s.gr (fun ⟨x, hx, e, _⟩ => by obtain rfl := List.mem_singleton.1 hx; exact absurd e (by show b3 ≠ _; omega)))
    refine tail_end rfl ?_
    refine region_goS 2 ((14, .s ((fI ((k : Nat) : Int)).toSF)) :: (15, .u (fI ((k + 1 : Nat) : Int))) :: []) s (by kernel_rfl)
      (obs_cons (ok_move) <| obs_cons (ok_addI .i64 (((k : Nat) : Int)) (1) (((k + 1 : Nat)) : Int) (fun _ _ h => h) (fun _ _ h => h) (wrap64 _ _ (by omega) (by omega))) <| obs_nil) fun a w6 s => ?_
    replace s := s.drop [4]
    refine t_set (fI ((k + 1 : Nat) : Int)) rfl s (by kernel_rfl) (fun _ _ h => h) fun a w s => ?_
    refine tail_end rfl ?_
    exact ⟨k + 1, by omega, hk1, hJs _ _ _ hJ2 (s1.itr_to s.gr (fun x hx _ => by obtain rfl := List.mem_singleton.1 hx; exact hB3) (by omega)), hT2.bls2 s.gr (fun ⟨x, hx, e, _⟩ => by obtain rfl := List.mem_singleton.1 hx; exact absurd e (by show b3 ≠ _; omega)), by have := s.gr.size; omega, (s.keepK _ (List.forall_mem_cons.2 ⟨.tail _ (.tail _ (.tail _ (.tail _ (.tail _ (.tail _ (.tail _ (.tail _ (.tail _ (.tail _ (.head _)))))))))), List.forall_mem_cons.2 ⟨.head _, List.forall_mem_nil _⟩⟩)).self (allU_spec (by kernel_rfl))⟩
  · have hz : Z w := by rcases hbv with ⟨e2, _⟩ | ⟨_, hz⟩; rw [e] at e2; cases e2; exact hz
    refine wpIn_exit ?_
    exact ⟨s.nd, .tuple #[], by simp [results, Tryz.results79], ⟨_, rfl⟩, .inr hz⟩

end Go.Proofs.Wd


namespace Go.Proofs.Wd
open Go.RowKit Lb

theorem upw_v {W : World} {m : Nat} {u v : Value} {x sh : Nat} (h : LV W m u x) (hv : v = .int .i64 ((sh : Nat) : Int)) (hm : m ≤ 100000) (hs : sh ≤ 65536) : Calls Tryz.prog 46 #[u, v] W (Ret W (fNat (x * 2 ^ sh)).toSF) := by
  subst hv
  obtain ⟨A, n, c, l, rfl, h1, h2, h3, rfl⟩ := h
  have hd : 32 * (sh / 32) + sh % 32 = sh := by omega
  have := up_anyK A n c l (sh / 32) (sh % 32) W h1 h2 (by omega) (by omega) (by omega)
  rw [hd] at this
  refine this.mono fun e w' hh => ?_
  obtain ⟨A1, n1, c1, l1, rfl, g1, g2, g3⟩ := hh
  exact ⟨_, rfl, ⟨A1, n1, c1, l1, rfl, g1, Own32.rd g2⟩, g3⟩
theorem QB.shift {q : Rat} {m M k : Nat} (h : QB q m) (hk : k ≤ 32 * M) : QB (q * twoP k) (m + M) := by
  have e : q * twoP k = mkRat (q.num * ((2 ^ k : Nat) : Int)) q.den := by
    rw [Rat.mkRat_eq_div, Rat.intCast_mul, Rat.div_def, Rat.mul_assoc, Rat.mul_comm ((((2 ^ k : Nat) : Int)) : Rat), ← Rat.mul_assoc, ← Rat.div_def, ← Rat.mkRat_eq_div, Rat.mkRat_self]
    rfl
  rw [e]
  refine QB.of ?_ (Nat.lt_of_lt_of_le h.2 (Nat.pow_le_pow_right BB_pos (by omega))) (by have := h.pos; omega)
  unfold Bd
  rw [Int.natAbs_mul, Int.natAbs_natCast]
  exact shift_lt h.1 hk
theorem b_shift {W : World} {m M k : Nat} {q : Rat} {u v : Value} (hq : QB q m) (h0 : 0 ≤ q) (hk : k ≤ 32 * M) (hu : NV W u (((q.num.natAbs * 2 ^ k : Nat)) : Int)) (hv : NatV W v q.den) : ∃ cells, Tryz.prog.built 27 [(0, u), (1, v)] = some cells ∧ RVp (m + M) (q * twoP k) (.agg cells) W := by
  have hn : 0 ≤ q.num := Rat.num_nonneg.2 h0
  have e1 : ((q.num.natAbs * 2 ^ k : Nat) : Int) = q.num * ((2 ^ k : Nat) : Int) := by rw [Int.natCast_mul]; congr 1; omega
  have hb : Bd (((q.num.natAbs * 2 ^ k : Nat)) : Int) (m + M) := by unfold Bd; rw [Int.natAbs_natCast]; exact shift_lt hq.1 hk
  obtain ⟨cells, h1, h2⟩ := b_ratV (NV.uv' hu hb) (NatV.lv hv (Nat.lt_of_lt_of_le hq.2 (Nat.pow_le_pow_right BB_pos (by omega))))
  refine ⟨cells, h1, _, _, h2, ?_⟩
  rw [e1, Rat.mkRat_eq_div, Rat.intCast_mul, Rat.div_def, Rat.mul_assoc, Rat.mul_comm ((((2 ^ k : Nat) : Int)) : Rat), ← Rat.mul_assoc, ← Rat.div_def, ← Rat.mkRat_eq_div, Rat.mkRat_self]
  rfl
theorem b_dya {W : World} {M k : Nat} {z : Int} {u v : Value} (hz : Bd z M) (hk : k < 32 * M) (hu : NV W u z) (hv : NatV W v (2 ^ k)) : ∃ cells, Tryz.prog.built 27 [(0, u), (1, v)] = some cells ∧ RVp M (mkRat z (2 ^ k)) (.agg cells) W := by
  obtain ⟨cells, h1, h2⟩ := b_ratV (m := M) (NV.uv' hu hz) (NatV.lv hv (Nat.lt_of_lt_of_le (Nat.pow_lt_pow_right (by decide) hk) (two_pow_BB (Nat.le_refl _))))
  exact ⟨cells, h1, _, _, h2, rfl⟩
theorem qsg_room {p q : Rat} {S k : Nat} (hS : Least p q S) : decide (qsg (((fl (p * twoP k)) + 1 : Int) : Rat) (q * twoP k) < 0) = decide (S ≤ k) := by
  rw [decide_eq_decide, ← hS.room]
  unfold Room
  rw [← qsg_lt]
  have := qsg_tri (((fl (p * twoP k)) + 1 : Int) : Rat) (q * twoP k)
  omega

theorem sign_lt (q : Rat) (b : Bool) (h : b = decide (q < 0)) : decide (q.num.sign < 0) = b := by
  have h1 := sign_ge q _ rfl
  have h2 : q < 0 ↔ ¬ 0 ≤ q := Rat.not_le.symm
  rw [h]
  rw [decide_eq_decide] at h1 ⊢
  rw [h2, ← h1]
  omega
theorem upto_qb {q : Rat} {m S : Nat} (h : QB q m) (hS : S ≤ 3000) : QB (upto q S) (m + 95) := by
  unfold upto
  have h1 := fl_bd h (show S ≤ 32 * 94 by omega)
  exact QB.of (h1.mono (by omega)) (Nat.lt_of_lt_of_le (Nat.pow_lt_pow_right (by decide) (show S < 32 * (m + 95) by omega)) (two_pow_BB (Nat.le_refl _))) (by omega)

set_option maxRecDepth 100000 in
theorem rbetween_ge {W : World} {m : Nat} {u v : Value} {p q : Rat} (h : RVp m p u W) (h' : RVp m q v W) (hm : m ≤ 100) (hm0 : 0 < m) (hT : Tab W) (hc : q ≤ p) : Calls Tryz.prog 7 #[u, v] W (Ret W (fTup2 (fQN (((0 : Int) : Rat))) (fB false)).toSF) := by
  have hp : QB p m := h.qb hm0
  have hq : QB q m := h'.qb hm0
  have hcmp : decide (qsg p q ≥ 0) = true := by refine decide_eq_true ?_; rcases qsg_tri p q with e | e | e; have := qsg_lt.1 e; grind; omega; omega
  refine run_stM [(fRV m p).toSF, (fRV m q).toSF] Tryz.func7 rfl (by kernel_rfl) ⟨h, h', trivial⟩ fun a s => ?_
  refine wpIn_seq ?_
  refine region_go 0 [] hmix s (by kernel_rfl)
    obs_nil fun a w1 s => ?_
  refine t_box (CU.agg (fRV (m) (p))) rfl s (by kernel_rfl) (fun v W h => rv_box h) fun b2 a w s => ?_
  refine t_box (CU.agg (fRV (m) (q))) rfl s (by kernel_rfl) (fun v W h => rv_box h) fun b3 a w s => ?_
  refine t_alloc (CU.len 3) (cs := [.bool false, .slice none 0 0, .slice none 0 0]) (by kernel_rfl) rfl s (by kernel_rfl) (fun W => rfl) rfl fun b4 a w s => ?_
  refine t_set (UF.eq (.bool false)) rfl s (by kernel_rfl) (fun _ _ h => h) fun a w s => ?_
  refine tail_end rfl ?_
  refine (wpIn_wide (n := 0)).2 (wp_scope_straight ((wpIn_wide (n := 0)).1 ?_))
  refine wpIn_seq ?_
  refine wpIn_seq ?_
  refine region_go 4 ((10, .s ((fRV (m) (p)).toSF)) :: (11, .s ((fRV (m) (q)).toSF)) :: (12, .s ((UF.eq (.int .i64 ((qsg p q)))).toSF)) :: (13, .u (UF.eq (.bool true))) :: []) hmix s (by kernel_rfl)
    (obs_cons (ok_ldW (f := fRV (m) (p)) 3 (by kernel_rfl) (hz := rv_len _ _)) <| obs_cons (ok_ldW (f := fRV (m) (q)) 3 (by kernel_rfl) (hz := rv_len _ _)) <| obs_cons (ok_call2 wide_wide en_25 (fun u0 u1 W hb (h0 : RVp (m) (p) u0 W) (h1 : RVp (m) (q) u1 W) => rCmp_q h0 h1 (by omega) hm0 (hT.below (s.up hb)))) <| obs_cons (ok_cmpI .i64 ((qsg p q)) 0 true (fun _ _ h => h) (fun _ _ h => h) (by exact hcmp) rfl) <| obs_nil) fun a w2 s => ?_
  refine tail_end rfl ?_
  refine StS.cond s true (fun _ _ h => h) (fun e => ?_) (fun e => by cases e)
  refine wpIn_seq ?_
  replace s := s.drop [5]
  refine region_go 1 ((14, .u (fQN (((0 : Int) : Rat)))) :: []) hmix s (by kernel_rfl)
    (obs_cons (ok_call1 wide_wide en_28 (fun u0 W hb (h0 : u0 = .int .i64 (0)) => rof_w 0 h0 (by decide))) <| obs_nil) fun a w3 s => ?_
  refine t_store (CU.agg (fQN (((0 : Int) : Rat)))) ((fQN (((0 : Int) : Rat))).toSF) rfl s (by kernel_rfl) rfl rfl rfl (fun _ _ h => h) (fun _ _ h => h) (qn_store) fun a w s => ?_
  refine t_set (UF.eq (.bool false)) rfl s (by kernel_rfl) (fun _ _ h => h) fun a w s => ?_
  refine tail_end rfl ?_
  refine wpIn_ret ?_
  exact StS.resMCT s (fTup2 (fQN (((0 : Int) : Rat))) (fB false)) (CU.agg (fQN (((0 : Int) : Rat)))) rfl (by kernel_rfl) rfl rfl (qn_len _) (fun cs v W h1 h2 => ⟨_, _, rfl, h1, h2⟩)

set_option maxRecDepth 100000 in
theorem rbetween_mid {W : World} {m : Nat} {u v : Value} {p q : Rat} (h : RVp m p u W) (h' : RVp m q v W) (hm : m ≤ 100) (hm0 : 0 < m) (hT : Tab W) (hp0 : p < 0) (hq0 : 0 < q) : Calls Tryz.prog 7 #[u, v] W (Ret W (fTup2 (fQN (((0 : Int) : Rat))) (fB true)).toSF) := by
  have hp : QB p m := h.qb hm0
  have hq : QB q m := h'.qb hm0
  have hpq : p < q := by grind
  have hcmp : decide (qsg p q ≥ 0) = false := by refine decide_eq_false ?_; rw [qsg_lt.2 hpq]; decide
  have hsq : false = decide (q ≤ 0) := (decide_eq_false (by grind)).symm
  have hsp : true = decide (p < 0) := (decide_eq_true hp0).symm
  refine run_stM [(fRV m p).toSF, (fRV m q).toSF] Tryz.func7 rfl (by kernel_rfl) ⟨h, h', trivial⟩ fun a s => ?_
  refine wpIn_seq ?_
  refine region_go 0 [] hmix s (by kernel_rfl)
    obs_nil fun a w1 s => ?_
  refine t_box (CU.agg (fRV (m) (p))) rfl s (by kernel_rfl) (fun v W h => rv_box h) fun b2 a w s => ?_
  refine t_box (CU.agg (fRV (m) (q))) rfl s (by kernel_rfl) (fun v W h => rv_box h) fun b3 a w s => ?_
  refine t_alloc (CU.len 3) (cs := [.bool false, .slice none 0 0, .slice none 0 0]) (by kernel_rfl) rfl s (by kernel_rfl) (fun W => rfl) rfl fun b4 a w s => ?_
  refine t_set (UF.eq (.bool false)) rfl s (by kernel_rfl) (fun _ _ h => h) fun a w s => ?_
  refine tail_end rfl ?_
  refine (wpIn_wide (n := 0)).2 (wp_scope_straight ((wpIn_wide (n := 0)).1 ?_))
  refine wpIn_seq ?_
  refine wpIn_seq ?_
  refine region_go 4 ((10, .s ((fRV (m) (p)).toSF)) :: (11, .s ((fRV (m) (q)).toSF)) :: (12, .s ((UF.eq (.int .i64 ((qsg p q)))).toSF)) :: (13, .u (UF.eq (.bool false))) :: []) hmix s (by kernel_rfl)
    (obs_cons (ok_ldW (f := fRV (m) (p)) 3 (by kernel_rfl) (hz := rv_len _ _)) <| obs_cons (ok_ldW (f := fRV (m) (q)) 3 (by kernel_rfl) (hz := rv_len _ _)) <| obs_cons (ok_call2 wide_wide en_25 (fun u0 u1 W hb (h0 : RVp (m) (p) u0 W) (h1 : RVp (m) (q) u1 W) => rCmp_q h0 h1 (by omega) hm0 (hT.below (s.up hb)))) <| obs_cons (ok_cmpI .i64 ((qsg p q)) 0 false (fun _ _ h => h) (fun _ _ h => h) (by exact hcmp) rfl) <| obs_nil) fun a w2 s => ?_
  refine tail_end rfl ?_
  refine StS.cond s false (fun _ _ h => h) (fun e => by cases e) (fun e => ?_)
  refine wpIn_skip ?_
  refine wpIn_seq ?_
  refine wpIn_seq ?_
  refine region_go 3 ((15, .s ((fRV (m) (q)).toSF)) :: (16, .s ((UF.eq (.int .i64 ((q.num.sign)))).toSF)) :: (17, .u (UF.eq (.bool false))) :: []) hmix s (by kernel_rfl)
    (obs_cons (ok_ldW (f := fRV (m) (q)) 3 (by kernel_rfl) (hz := rv_len _ _)) <| obs_cons (ok_call1 wide_wide en_24 (fun u0 W hb (h0 : RVp (m) (q) u0 W) => rSign_q h0 (by omega) hm0 (hT.below (s.up hb)))) <| obs_cons (ok_cmpI .i64 ((q.num.sign)) 0 false (fun _ _ h => h) (fun _ _ h => h) (by exact sign_le q _ hsq) rfl) <| obs_nil) fun a w3 s => ?_
  refine tail_end rfl ?_
  refine StS.cond s false (fun _ _ h => h) (fun e => by cases e) (fun e => ?_)
  refine wpIn_skip ?_
  refine wpIn_seq ?_
  refine wpIn_seq ?_
  refine region_go 3 ((29, .s ((fRV (m) (p)).toSF)) :: (30, .s ((UF.eq (.int .i64 ((p.num.sign)))).toSF)) :: (31, .u (UF.eq (.bool true))) :: []) hmix s (by kernel_rfl)
    (obs_cons (ok_ldW (f := fRV (m) (p)) 3 (by kernel_rfl) (hz := rv_len _ _)) <| obs_cons (ok_call1 wide_wide en_24 (fun u0 W hb (h0 : RVp (m) (p) u0 W) => rSign_q h0 (by omega) hm0 (hT.below (s.up hb)))) <| obs_cons (ok_cmpI .i64 ((p.num.sign)) 0 true (fun _ _ h => h) (fun _ _ h => h) (by exact sign_lt p _ hsp) rfl) <| obs_nil) fun a w4 s => ?_
  refine tail_end rfl ?_
  refine StS.cond s true (fun _ _ h => h) (fun e => ?_) (fun e => by cases e)
  refine wpIn_seq ?_
  replace s := s.drop [5]
  refine region_go 1 ((32, .u (fQN (((0 : Int) : Rat)))) :: []) hmix s (by kernel_rfl)
    (obs_cons (ok_call1 wide_wide en_28 (fun u0 W hb (h0 : u0 = .int .i64 (0)) => rof_w 0 h0 (by decide))) <| obs_nil) fun a w5 s => ?_
  refine t_store (CU.agg (fQN (((0 : Int) : Rat)))) ((fQN (((0 : Int) : Rat))).toSF) rfl s (by kernel_rfl) rfl rfl rfl (fun _ _ h => h) (fun _ _ h => h) (qn_store) fun a w s => ?_
  refine t_set (UF.eq (.bool true)) rfl s (by kernel_rfl) (fun _ _ h => h) fun a w s => ?_
  refine tail_end rfl ?_
  refine wpIn_ret ?_
  exact StS.resMCT s (fTup2 (fQN (((0 : Int) : Rat))) (fB true)) (CU.agg (fQN (((0 : Int) : Rat)))) rfl (by kernel_rfl) rfl rfl (qn_len _) (fun cs v W h1 h2 => ⟨_, _, rfl, h1, h2⟩)

set_option maxRecDepth 100000 in
theorem rbetween_pos {W : World} {m : Nat} {u v : Value} {p q : Rat} (h : RVp m p u W) (h' : RVp m q v W) (hm : m ≤ 100) (hm0 : 0 < m) (hT : Tab W) (S : Nat) (hS : Least p q S) (hSb : S ≤ 3000) (hp0 : 0 ≤ p) : Calls Tryz.prog 7 #[u, v] W (Ret W (fTup2 (fQN (btw p q S)) (fB true)).toSF) := by
  have hp : QB p m := h.qb hm0
  have hq : QB q m := h'.qb hm0
  have hpq : p < q := by have h1 := btw_lt hS; grind
  have hcmp : decide (qsg p q ≥ 0) = false := by refine decide_eq_false ?_; rw [qsg_lt.2 hpq]; decide
  have hsq : false = decide (q ≤ 0) := (decide_eq_false (by grind)).symm
  have hsp : false = decide (p < 0) := (decide_eq_false (by grind)).symm
  refine run_stM [(fRV m p).toSF, (fRV m q).toSF] Tryz.func7 rfl (by kernel_rfl) ⟨h, h', trivial⟩ fun a s => ?_
  refine wpIn_seq ?_
  refine region_go 0 [] hmix s (by kernel_rfl)
    obs_nil fun a w1 s => ?_
  refine t_box (CU.agg (fRV (m) (p))) rfl s (by kernel_rfl) (fun v W h => rv_box h) fun b2 a w s => ?_
  refine t_box (CU.agg (fRV (m) (q))) rfl s (by kernel_rfl) (fun v W h => rv_box h) fun b3 a w s => ?_
  refine t_alloc (CU.len 3) (cs := [.bool false, .slice none 0 0, .slice none 0 0]) (by kernel_rfl) rfl s (by kernel_rfl) (fun W => rfl) rfl fun b4 a w s => ?_
  refine t_set (UF.eq (.bool false)) rfl s (by kernel_rfl) (fun _ _ h => h) fun a w s => ?_
  refine tail_end rfl ?_
  refine (wpIn_wide (n := 0)).2 (wp_scope_straight ((wpIn_wide (n := 0)).1 ?_))
  refine wpIn_seq ?_
  refine wpIn_seq ?_
  refine region_go 4 ((10, .s ((fRV (m) (p)).toSF)) :: (11, .s ((fRV (m) (q)).toSF)) :: (12, .s ((UF.eq (.int .i64 ((qsg p q)))).toSF)) :: (13, .u (UF.eq (.bool false))) :: []) hmix s (by kernel_rfl)
    (obs_cons (ok_ldW (f := fRV (m) (p)) 3 (by kernel_rfl) (hz := rv_len _ _)) <| obs_cons (ok_ldW (f := fRV (m) (q)) 3 (by kernel_rfl) (hz := rv_len _ _)) <| obs_cons (ok_call2 wide_wide en_25 (fun u0 u1 W hb (h0 : RVp (m) (p) u0 W) (h1 : RVp (m) (q) u1 W) => rCmp_q h0 h1 (by omega) hm0 (hT.below (s.up hb)))) <| obs_cons (ok_cmpI .i64 ((qsg p q)) 0 false (fun _ _ h => h) (fun _ _ h => h) (by exact hcmp) rfl) <| obs_nil) fun a w2 s => ?_
  refine tail_end rfl ?_
  refine StS.cond s false (fun _ _ h => h) (fun e => by cases e) (fun e => ?_)
  refine wpIn_skip ?_
  refine wpIn_seq ?_
  refine wpIn_seq ?_
  refine region_go 3 ((15, .s ((fRV (m) (q)).toSF)) :: (16, .s ((UF.eq (.int .i64 ((q.num.sign)))).toSF)) :: (17, .u (UF.eq (.bool false))) :: []) hmix s (by kernel_rfl)
    (obs_cons (ok_ldW (f := fRV (m) (q)) 3 (by kernel_rfl) (hz := rv_len _ _)) <| obs_cons (ok_call1 wide_wide en_24 (fun u0 W hb (h0 : RVp (m) (q) u0 W) => rSign_q h0 (by omega) hm0 (hT.below (s.up hb)))) <| obs_cons (ok_cmpI .i64 ((q.num.sign)) 0 false (fun _ _ h => h) (fun _ _ h => h) (by exact sign_le q _ hsq) rfl) <| obs_nil) fun a w3 s => ?_
  refine tail_end rfl ?_
  refine StS.cond s false (fun _ _ h => h) (fun e => by cases e) (fun e => ?_)
  refine wpIn_skip ?_
  refine wpIn_seq ?_
  refine wpIn_seq ?_
  refine region_go 3 ((29, .s ((fRV (m) (p)).toSF)) :: (30, .s ((UF.eq (.int .i64 ((p.num.sign)))).toSF)) :: (31, .u (UF.eq (.bool false))) :: []) hmix s (by kernel_rfl)
    (obs_cons (ok_ldW (f := fRV (m) (p)) 3 (by kernel_rfl) (hz := rv_len _ _)) <| obs_cons (ok_call1 wide_wide en_24 (fun u0 W hb (h0 : RVp (m) (p) u0 W) => rSign_q h0 (by omega) hm0 (hT.below (s.up hb)))) <| obs_cons (ok_cmpI .i64 ((p.num.sign)) 0 false (fun _ _ h => h) (fun _ _ h => h) (by exact sign_lt p _ hsp) rfl) <| obs_nil) fun a w4 s => ?_
  refine tail_end rfl ?_
  refine StS.cond s false (fun _ _ h => h) (fun e => by cases e) (fun e => ?_)
  refine wpIn_skip ?_
  refine wpIn_seq ?_
  have so := s.old; have sg := s.gr
  refine region_goN 2 ((33, .s ((fRV (m) (q)).toSF)) :: (34, .s (SF.newBox w4 59 (CU.agg (fQN q)))) :: []) hmix s (by kernel_rfl)
    (obs_cons (ok_ldW (f := fRV (m) (q)) 3 (by kernel_rfl) (hz := rv_len _ _)) <| obs_cons (ok_call1 wide_wide en_43 (fun u0 W hb (h0 : RVp (m) (q) u0 W) => (rof_q h0 (by omega) (hT.below (s.up hb))).mono (Ret.to (newBox_old hb.size)))) <| obs_nil) fun a w5 s hr => ?_
  obtain ⟨b34, hB34, s⟩ := s.adopt true 34 (hr (_, _) (.tail _ (.head _))) sg (fun y hy => .inl (so y hy))
  refine t_alloc (CU.len 1) (cs := [.pointer none]) (by kernel_rfl) rfl s (by kernel_rfl) (fun W => rfl) rfl fun b6 a w s => ?_
  refine t_storeP (c := 6) (o := 0) (kk := 1) (CU.is [.pointer (some ⟨b34, 0, none⟩)]) ((UF.eq (.pointer (some ⟨b34, 0, none⟩))).toSF) rfl s (by kernel_rfl) rfl rfl (fun _ _ h => h.1) (fun _ _ h => h.1) (sp_ptr b34) fun a w s => ?_
  refine tail_end rfl ?_
  refine wpIn_seq ?_
  refine wpIn_label ?_
  refine wpIn_seq ?_
  refine wpIn_seq ?_
  refine region_goN 2 ((35, .s ((fRV (m) (p)).toSF)) :: (36, .s (fClos w 79 27 (CU.agg (fRV m p)))) :: []) hmix s (by kernel_rfl)
    (obs_cons (ok_ldW (f := fRV (m) (p)) 3 (by kernel_rfl) (hz := rv_len _ _)) <| obs_cons (ok_call1 wide_wide en_44 (fun u0 W hb (h0 : RVp (m) (p) u0 W) => (doubled_v h0).mono (Ret.to (fClos_old hb.size)))) <| obs_nil) fun a w6 s hr => ?_
  refine tail_end rfl ?_
  refine wpIn_block ?_
  obtain ⟨b36, cs36, e36, hb36, hh36, hc36, hn36⟩ := hr (_, _) (.tail _ (.head _))
  replace s := (s.keepK [] (List.forall_mem_nil _)).learn 36 _ e36
  have hTl : Tab w6 := hT.below s.gr.below
  refine st_range (N := S + 1) (endless := True) (fun _ => [⟨6, 53, CU.is [.pointer (some ⟨b34, 0, none⟩)], b6, false⟩, ⟨34, 59, CU.agg (fQN (q)), b34, true⟩, ⟨4, 27, CU.len 3, b4, false⟩, ⟨3, 27, CU.agg (fRV (m) (q)), b3, false⟩, ⟨2, 27, CU.agg (fRV (m) (p)), b2, false⟩]) [⟨6, 53, CU.is [.pointer (some ⟨b34, 0, none⟩)], b6, false⟩, ⟨34, 59, CU.agg (fQN (q)), b34, true⟩, ⟨4, 27, CU.agg (fQN (btw p q S)), b4, false⟩, ⟨3, 27, CU.agg (fRV (m) (q)), b3, false⟩, ⟨2, 27, CU.agg (fRV (m) (p)), b2, false⟩] (.exit 0) (fun k => [(37, .u (fI ((k : Nat) : Int))), (38, .u (fQN (p * twoP k)))]) s (fun _ _ h => h) (enters_of Tryz.func79 (by kernel_rfl) rfl) (doubled_it (m := m) (M := m + 95) hh36 hc36 hm0 (by omega) (by omega) (by omega) (fun k hk => hp.shift (by omega)) hTl (fun q hq => by obtain ⟨x, hx, e, _⟩ := hq; rw [← e]; exact s.old x hx) (fun hq => absurd (s.inB_new hq) (by have := lt_of_cell (hT 0 (by decide)); show ¬ W.heap.size ≤ 0; omega))) (fun _ => rfl) (fun k => List.forall_mem_cons.2 ⟨.inr ⟨0, _, rfl, rfl, rfl⟩, List.forall_mem_cons.2 ⟨.inr ⟨1, _, rfl, rfl, rfl⟩, List.forall_mem_nil _⟩⟩) (by kernel_rfl) (by kernel_rfl) (by kernel_rfl) (fun _ => rfl) rfl (fun _ => Nat.succ_pos _) (fun l k xs WR hk so s => ?_) (fun hne => absurd trivial hne) (fun D w s => ?_)
  · have hTR : Tab WR := hT.below so.gr.below
    have hSg : ¬ (inB ([⟨6, 53, CU.is [.pointer (some ⟨b34, 0, none⟩)], b6, false⟩, ⟨34, 59, CU.agg (fQN (q)), b34, true⟩, ⟨4, 27, CU.len 3, b4, false⟩, ⟨3, 27, CU.agg (fRV (m) (q)), b3, false⟩, ⟨2, 27, CU.agg (fRV (m) (p)), b2, false⟩]) 0 ∨ WR.heap.size ≤ 0) := fun hh => by
      have h1 := lt_of_cell (hT 0 (by decide))
      have h2 := so.gr.size
      rcases hh with hh | hh
      · have := so.inB_new hh; omega
      · omega
    generalize ({ tmps := _, defers := [] } : Act) = a at s ⊢
    refine wpIn_seq ?_
    refine region_go 1 ((7, .u (fI ((k : Nat) : Int))) :: []) hmix s (by kernel_rfl)
      (obs_cons (ok_assign) <| obs_nil) fun a w7 s => ?_
    refine tail_end rfl ?_
    refine region_go 0 [] hmix s (by kernel_rfl)
      obs_nil fun a w8 s => ?_
    refine t_alloc (CU.len 3) (cs := [.bool false, .slice none 0 0, .slice none 0 0]) (by kernel_rfl) rfl s (by kernel_rfl) (fun W => rfl) rfl fun b8 a w s => ?_
    refine t_store (CU.agg (fQN ((p * twoP k)))) ((fQN ((p * twoP k))).toSF) rfl s (by kernel_rfl) rfl rfl rfl (fun _ _ h => h) (fun _ _ h => h) (qn_store) fun a w s => ?_
    refine tail_end rfl ?_
    refine ⟨s.gr, fun W2 hcell hW2 => ?_⟩
    have hTR2 : Tab W2 := fun j hj => (hcell _).trans ((hTR.bls2 (S := fun j9 => inB ([⟨6, 53, CU.is [.pointer (some ⟨b34, 0, none⟩)], b6, false⟩, ⟨34, 59, CU.agg (fQN (q)), b34, true⟩, ⟨4, 27, CU.len 3, b4, false⟩, ⟨3, 27, CU.agg (fRV (m) (q)), b3, false⟩, ⟨2, 27, CU.agg (fRV (m) (p)), b2, false⟩]) j9 ∨ WR.heap.size ≤ j9) s.gr hSg) j hj)
    replace s := hW2 _ _ s
    refine wpIn_block ?_
    refine wpIn_seq ?_
    have hzq : QB ((((fl (p * twoP k)) + 1 : Int)) : Rat) (m + 96) := QB.int (fl_bd hp (show k ≤ 32 * 95 by omega)) (by omega)
    refine region_go 2 ((39, .s ((fQN ((p * twoP k))).toSF)) :: (40, .u (fNV (((fl (p * twoP k)) + 1)))) :: []) hmix s (by kernel_rfl)
      (obs_cons (ok_ldW (f := fQN ((p * twoP k))) 3 (by kernel_rfl) (hz := qn_len _)) <| obs_cons (ok_call1 wide_wide en_45 (fun u0 W hb (h0 : QNp ((p * twoP k)) u0 W) => rabove_q (QNp.rv h0 (hp.shift (show k ≤ 32 * 95 by omega))) (by omega) (by omega) ((hTR2.bls2 (S := fun j9 => inB ([⟨6, 53, CU.is [.pointer (some ⟨b34, 0, none⟩)], b6, false⟩, ⟨34, 59, CU.agg (fQN (q)), b34, true⟩, ⟨4, 27, CU.len 3, b4, false⟩, ⟨3, 27, CU.agg (fRV (m) (q)), b3, false⟩, ⟨2, 27, CU.agg (fRV (m) (p)), b2, false⟩]) j9 ∨ WR.heap.size ≤ j9) s.gr hSg).below hb))) <| obs_nil) fun a w9 s => ?_
    refine t_alloc (CU.len 2) (cs := [.bool false, .slice none 0 0]) (by kernel_rfl) rfl s (by kernel_rfl) (fun W => rfl) rfl fun b9 a w s => ?_
    refine t_store (CU.agg (fNV (((fl (p * twoP k)) + 1)))) ((fNV (((fl (p * twoP k)) + 1))).toSF) rfl s (by kernel_rfl) rfl rfl rfl (fun _ _ h => h) (fun _ _ h => h) (nv_store) fun a w s => ?_
    refine tail_end rfl ?_
    refine wpIn_seq ?_
    obtain ⟨cs34, hh34, hc34, _⟩ := s.boxAt (c := 34) rfl
    refine region_go 20 ((41, .s ((fNV (((fl (p * twoP k)) + 1))).toSF)) :: (42, .s ((fNat (1)).toSF)) :: (43, .s ((fQN (((((fl (p * twoP k)) + 1) : Int) : Rat))).toSF)) :: (44, .s (SF.pb b34 (CU.agg (fQN q)).cf)) :: (45, .s (SF.ptr (CU.agg (fQN (q))).cf)) :: (46, .s (SF.ptr ((CU.agg (fQN (q))).cf.at 0))) :: (47, .s (SF.ptr ((CU.agg (fQN (q))).cf.at 0))) :: (48, .s (SF.ptr ((CU.agg (fQN (q))).cf.at 1))) :: (49, .s ((fNat ((q).num.natAbs)).toSF)) :: (50, .s ((fI ((k : Nat) : Int)).toSF)) :: (51, .s ((fNat ((q.num.natAbs) * 2 ^ k)).toSF)) :: (52, .s ((fNV ((((q.num.natAbs) * 2 ^ k : Nat) : Int))).toSF)) :: (53, .s (SF.pb b34 (CU.agg (fQN q)).cf)) :: (54, .s (SF.ptr (CU.agg (fQN (q))).cf)) :: (55, .s (SF.ptr ((CU.agg (fQN (q))).cf.at 0))) :: (56, .s (SF.ptr ((CU.agg (fQN (q))).cf.at 2))) :: (57, .s ((fNat ((q).den)).toSF)) :: (58, .s ((fRV ((m + 95)) ((q * twoP k))).toSF)) :: (59, .s ((UF.eq (.int .i64 ((qsg (((fl (p * twoP k)) + 1 : Int) : Rat) (q * twoP k))))).toSF)) :: (60, .u (UF.eq (.bool (decide (S ≤ k))))) :: []) hmix s (by kernel_rfl)
      (obs_cons (ok_ldW (f := fNV (((fl (p * twoP k)) + 1))) 2 (by kernel_rfl) (hz := nv_len _)) <| obs_cons (ok_slice1 (fun u W (hu : u = .int .u32 1) => sl_one hu)) <| obs_cons (ok_build2 (fun u v W (hu : NV W u ((fl (p * twoP k)) + 1)) (hv : NatV W v 1) => b_ratN (q := ((((fl (p * twoP k)) + 1) : Int) : Rat)) hu hv)) <| obs_cons (ok_loadP (C := (CU.is [.pointer (some ⟨b34, 0, none⟩)]).cf) (b' := b34) (D := CU.agg (fQN q)) (by kernel_rfl) (fun _ _ h => h.2) (fun cs W h => by obtain rfl : cs = _ := h; rfl) hh34 hc34) <| obs_cons (ok_nil (C := (CU.agg (fQN (q))).cf)) <| obs_cons (ok_fld (C := (CU.agg (fQN (q))).cf) 0 (by kernel_rfl)) <| obs_cons (ok_fldn (C := (CU.agg (fQN (q))).cf) 0 0 (by kernel_rfl)) <| obs_cons (ok_fldn (C := (CU.agg (fQN (q))).cf) 0 1 (by kernel_rfl)) <| obs_cons (ok_ld (C := (CU.agg (fQN (q))).cf) (k := 1) (by kernel_rfl) (h := qn_abs)) <| obs_cons (ok_move) <| obs_cons (ok_call2 wide_wide en_46 (fun u0 u1 W hb (h0 : NatV W u0 ((q).num.natAbs)) (h1 : u1 = .int .i64 ((k : Nat) : Int)) => upw_v (NatV.lv (m := m) h0 hq.1) h1 (by omega) (by omega))) <| obs_cons (ok_build1 (fun u W (hu : NatV W u ((q.num.natAbs) * 2 ^ k)) => b_whole hu)) <| obs_cons (ok_loadP (C := (CU.is [.pointer (some ⟨b34, 0, none⟩)]).cf) (b' := b34) (D := CU.agg (fQN q)) (by kernel_rfl) (fun _ _ h => h.2) (fun cs W h => by obtain rfl : cs = _ := h; rfl) hh34 hc34) <| obs_cons (ok_nil (C := (CU.agg (fQN (q))).cf)) <| obs_cons (ok_fld (C := (CU.agg (fQN (q))).cf) 0 (by kernel_rfl)) <| obs_cons (ok_fldn (C := (CU.agg (fQN (q))).cf) 0 2 (by kernel_rfl)) <| obs_cons (ok_ld (C := (CU.agg (fQN (q))).cf) (k := 2) (by kernel_rfl) (h := qn_den)) <| obs_cons (ok_build2 (fun u v W (hu : NV W u ((((q.num.natAbs) * 2 ^ k : Nat) : Int))) (hv : NatV W v (q.den)) => b_shift hq (by grind) (show k ≤ 32 * 95 by omega) hu hv)) <| obs_cons (ok_call2 wide_wide en_25 (fun u0 u1 W hb (h0 : QNp (((((fl (p * twoP k)) + 1) : Int) : Rat)) u0 W) (h1 : RVp ((m + 95)) ((q * twoP k)) u1 W) => rCmp_q (m := m + 96) (QNp.rv h0 hzq) (RVp.mono h1 (by omega)) (by omega) (by omega) ((hTR2.bls2 (S := fun j9 => inB ([⟨6, 53, CU.is [.pointer (some ⟨b34, 0, none⟩)], b6, false⟩, ⟨34, 59, CU.agg (fQN (q)), b34, true⟩, ⟨4, 27, CU.len 3, b4, false⟩, ⟨3, 27, CU.agg (fRV (m) (q)), b3, false⟩, ⟨2, 27, CU.agg (fRV (m) (p)), b2, false⟩]) j9 ∨ WR.heap.size ≤ j9) s.gr hSg).below hb))) <| obs_cons (ok_cmpI .i64 ((qsg (((fl (p * twoP k)) + 1 : Int) : Rat) (q * twoP k))) 0 (decide (S ≤ k)) (fun _ _ h => h) (fun _ _ h => h) (by exact qsg_room hS) rfl) <| obs_nil) fun a w10 s => ?_
    refine tail_end rfl ?_
    refine StS.cond s (decide (S ≤ k)) (fun _ _ h => h) (fun e => ?_) (fun e => ?_)
    · have hkS : k = S := by have := of_decide_eq_true e; omega
      have hup : ∀ W u0 u1, NatV W u0 1 → u1 = .int .i64 ((k : Nat) : Int) → Calls Tryz.prog 46 #[u0, u1] W (Ret W (fNat (2 ^ k)).toSF) := fun W u0 u1 h0 h1 => by
        have := upw_v (NatV.lv (m := 1) h0 (by unfold BB; decide)) h1 (by omega) (by omega)
        rw [Nat.one_mul] at this
        exact this
      have hnorm : ∀ W u0, RVp (m + 96) (mkRat ((fl (p * twoP k)) + 1) (2 ^ k)) u0 W → Tab W → Calls Tryz.prog 29 #[u0] W (Ret W (fQN (btw p q S)).toSF) := fun W u0 h0 hT => by
        have e1 : mkRat ((fl (p * twoP k)) + 1) (2 ^ k) = btw p q S := by rw [hkS]; unfold btw; rw [if_neg (by grind), if_neg (by grind)]; rfl
        rw [e1] at h0
        exact rNorm_q h0 (by omega) (by omega) hT
      refine wpIn_seq ?_
      refine region_goP [2] 6 ((61, .s ((fNV (((fl (p * twoP k)) + 1))).toSF)) :: (62, .s ((fNat (1)).toSF)) :: (63, .s ((fI ((k : Nat) : Int)).toSF)) :: (64, .s ((fNat (2 ^ k)).toSF)) :: (65, .s ((fRV ((m + 96)) ((mkRat ((fl (p * twoP k)) + 1) (2 ^ k)))).toSF)) :: (66, .u (fQN ((btw p q S)))) :: []) hmix s (by kernel_rfl)
        (obs_cons (ok_ldW (f := fNV (((fl (p * twoP k)) + 1))) 2 (by kernel_rfl) (hz := nv_len _)) <| obs_cons (ok_slice1 (fun u W (hu : u = .int .u32 1) => sl_one hu)) <| obs_cons (ok_move) <| obs_cons (ok_call2 wide_wide en_46 (fun u0 u1 W hb (h0 : NatV W u0 (1)) (h1 : u1 = .int .i64 ((k : Nat) : Int)) => hup W u0 u1 h0 h1)) <| obs_cons (ok_build2 (fun u v W (hu : NV W u ((fl (p * twoP k)) + 1)) (hv : NatV W v (2 ^ k)) => b_dya (fl_bd hp (show k ≤ 32 * 95 by omega)) (by omega) hu hv)) <| obs_cons (ok_call1 wide_wide en_29 (fun u0 W hb (h0 : RVp ((m + 96)) ((mkRat ((fl (p * twoP k)) + 1) (2 ^ k))) u0 W) => hnorm W u0 h0 ((hTR2.bls2 (S := fun j9 => inB ([⟨6, 53, CU.is [.pointer (some ⟨b34, 0, none⟩)], b6, false⟩, ⟨34, 59, CU.agg (fQN (q)), b34, true⟩, ⟨4, 27, CU.len 3, b4, false⟩, ⟨3, 27, CU.agg (fRV (m) (q)), b3, false⟩, ⟨2, 27, CU.agg (fRV (m) (p)), b2, false⟩]) j9 ∨ WR.heap.size ≤ j9) s.gr hSg).below hb))) <| obs_nil) fun Q' hQ a w11 s => ?_
      refine t_store (CU.agg (fQN ((btw p q S)))) ((fQN ((btw p q S))).toSF) rfl s (by kernel_rfl) rfl rfl rfl (fun _ _ h => h) (fun _ _ h => h) (qn_store) fun a w s => ?_
      refine tail_end rfl (hQ _ _ ?_)
      refine wpIn_exit ?_
      replace s := s.popB
      replace s := s.popB
      exact ⟨rfl, s.keepK [] (List.forall_mem_nil _)⟩
    · have hkS : k < S := by have := of_decide_eq_false e; omega
      refine wpIn_skip ?_
      replace s := s.popB
      replace s := s.popB
      exact ⟨s.keepK [] (List.forall_mem_nil _), fun _ => by omega⟩
  · generalize ({ a with defers := mark D :: a.defers } : Act) = a at s ⊢
    refine wpIn_exit ?_
    refine wpIn_seq ?_
    refine region_go 1 ((67, .u (fQN ((btw p q S)))) :: []) hmix s (by kernel_rfl)
      (obs_cons (ok_ldW (f := fQN ((btw p q S))) 3 (by kernel_rfl) (hz := qn_len _)) <| obs_nil) fun a w12 s => ?_
    refine t_store (CU.agg (fQN ((btw p q S)))) ((fQN ((btw p q S))).toSF) rfl s (by kernel_rfl) rfl rfl rfl (qn_len _) (fun _ _ h => h) (qn_store) fun a w s => ?_
    refine t_set (UF.eq (.bool true)) rfl s (by kernel_rfl) (fun _ _ h => h) fun a w s => ?_
    refine tail_end rfl ?_
    refine wpIn_ret ?_
    exact StS.resMCT s (fTup2 (fQN (btw p q S)) (fB true)) (CU.agg (fQN (btw p q S))) rfl (by kernel_rfl) rfl rfl (qn_len _) (fun cs v W h1 h2 => ⟨_, _, rfl, h1, h2⟩)

set_option maxRecDepth 100000 in
theorem rbetween_neg {W : World} {m : Nat} {u v : Value} {p q : Rat} (h : RVp m p u W) (h' : RVp m q v W) (hm : m ≤ 100) (hm0 : 0 < m) (hT : Tab W) (S : Nat) (hS : Least p q S) (hSb : S ≤ 3000) (hq0 : q ≤ 0) : Calls Tryz.prog 7 #[u, v] W (Ret W (fTup2 (fQN (btw p q S)) (fB true)).toSF) := by
  have hp : QB p m := h.qb hm0
  have hq : QB q m := h'.qb hm0
  have hpq : p < q := by have h1 := btw_lt hS; grind
  have hcmp : decide (qsg p q ≥ 0) = false := by refine decide_eq_false ?_; rw [qsg_lt.2 hpq]; decide
  have hsq : true = decide (q ≤ 0) := (decide_eq_true hq0).symm
  have hbq : QB (btw (-q) (-p) S) (m + 95) := by have e1 : btw (-q) (-p) S = upto (-q) S := (by unfold btw; rw [if_neg (by grind), if_neg (by grind)]); rw [e1]; exact upto_qb hq.neg (by omega)
  have hbv : -(btw (-q) (-p) S) = btw p q S := by have e1 : btw (-q) (-p) S = upto (-q) S := (by unfold btw; rw [if_neg (by grind), if_neg (by grind)]); rw [e1]; unfold btw; rw [if_pos hq0]
  refine run_stM [(fRV m p).toSF, (fRV m q).toSF] Tryz.func7 rfl (by kernel_rfl) ⟨h, h', trivial⟩ fun a s => ?_
  refine wpIn_seq ?_
  refine region_go 0 [] hmix s (by kernel_rfl)
    obs_nil fun a w1 s => ?_
  refine t_box (CU.agg (fRV (m) (p))) rfl s (by kernel_rfl) (fun v W h => rv_box h) fun b2 a w s => ?_
  refine t_box (CU.agg (fRV (m) (q))) rfl s (by kernel_rfl) (fun v W h => rv_box h) fun b3 a w s => ?_
  refine t_alloc (CU.len 3) (cs := [.bool false, .slice none 0 0, .slice none 0 0]) (by kernel_rfl) rfl s (by kernel_rfl) (fun W => rfl) rfl fun b4 a w s => ?_
  refine t_set (UF.eq (.bool false)) rfl s (by kernel_rfl) (fun _ _ h => h) fun a w s => ?_
  refine tail_end rfl ?_
  refine (wpIn_wide (n := 0)).2 (wp_scope_straight ((wpIn_wide (n := 0)).1 ?_))
  refine wpIn_seq ?_
  refine wpIn_seq ?_
  refine region_go 4 ((10, .s ((fRV (m) (p)).toSF)) :: (11, .s ((fRV (m) (q)).toSF)) :: (12, .s ((UF.eq (.int .i64 ((qsg p q)))).toSF)) :: (13, .u (UF.eq (.bool false))) :: []) hmix s (by kernel_rfl)
    (obs_cons (ok_ldW (f := fRV (m) (p)) 3 (by kernel_rfl) (hz := rv_len _ _)) <| obs_cons (ok_ldW (f := fRV (m) (q)) 3 (by kernel_rfl) (hz := rv_len _ _)) <| obs_cons (ok_call2 wide_wide en_25 (fun u0 u1 W hb (h0 : RVp (m) (p) u0 W) (h1 : RVp (m) (q) u1 W) => rCmp_q h0 h1 (by omega) hm0 (hT.below (s.up hb)))) <| obs_cons (ok_cmpI .i64 ((qsg p q)) 0 false (fun _ _ h => h) (fun _ _ h => h) (by exact hcmp) rfl) <| obs_nil) fun a w2 s => ?_
  refine tail_end rfl ?_
  refine StS.cond s false (fun _ _ h => h) (fun e => by cases e) (fun e => ?_)
  refine wpIn_skip ?_
  refine wpIn_seq ?_
  refine wpIn_seq ?_
  refine region_go 3 ((15, .s ((fRV (m) (q)).toSF)) :: (16, .s ((UF.eq (.int .i64 ((q.num.sign)))).toSF)) :: (17, .u (UF.eq (.bool true))) :: []) hmix s (by kernel_rfl)
    (obs_cons (ok_ldW (f := fRV (m) (q)) 3 (by kernel_rfl) (hz := rv_len _ _)) <| obs_cons (ok_call1 wide_wide en_24 (fun u0 W hb (h0 : RVp (m) (q) u0 W) => rSign_q h0 (by omega) hm0 (hT.below (s.up hb)))) <| obs_cons (ok_cmpI .i64 ((q.num.sign)) 0 true (fun _ _ h => h) (fun _ _ h => h) (by exact sign_le q _ hsq) rfl) <| obs_nil) fun a w3 s => ?_
  refine tail_end rfl ?_
  refine StS.cond s true (fun _ _ h => h) (fun e => ?_) (fun e => by cases e)
  refine wpIn_seq ?_
  replace s := s.drop [5]
  refine region_goA2 (fun i => [7].contains i) [] 8 ((19, .s ((fRV (m) (q)).toSF)) :: (20, .s ((fQN ((-q))).toSF)) :: (21, .s ((fRV (m) (p)).toSF)) :: (22, .s ((fQN ((-p))).toSF)) :: (23, .s ((fTup2 (fQN ((btw (-q) (-p) S))) (UF.eq (.bool true))).toSF)) :: (18, .s ((fTup2 (fQN ((btw (-q) (-p) S))) (UF.eq (.bool true))).toSF)) :: (24, .u (fQN ((btw (-q) (-p) S)))) :: (25, .u (UF.eq (.bool true))) :: []) hmix s (List.forall_mem_nil _) (by kernel_rfl)
    (obs_cons (ok_ldW (f := fRV (m) (q)) 3 (by kernel_rfl) (hz := rv_len _ _)) <| obs_cons (ok_call1 wide_wide en_31 (fun u0 W hb (h0 : RVp (m) (q) u0 W) => rNeg_q h0 (by omega) hm0 (hT.below (s.up hb)))) <| obs_cons (ok_ldW (f := fRV (m) (p)) 3 (by kernel_rfl) (hz := rv_len _ _)) <| obs_cons (ok_call1 wide_wide en_31 (fun u0 W hb (h0 : RVp (m) (p) u0 W) => rNeg_q h0 (by omega) hm0 (hT.below (s.up hb)))) <| obs_cons (ok_call2 wide_wide en_7 (fun u0 u1 W hb (h0 : QNp ((-q)) u0 W) (h1 : QNp ((-p)) u1 W) => rbetween_pos (QNp.rv h0 hq.neg) (QNp.rv h1 hp.neg) hm hm0 (hT.below (s.up hb)) S hS.neg hSb (by grind))) <| obs_cons (ok_move) <| obs_cons (ok_ext20 (A := (fQN ((btw (-q) (-p) S))).toSF) (B := (UF.eq (.bool true)).toSF) (fun _ _ h => h)) <| obs_cons (ok_ext21 (A := (fQN ((btw (-q) (-p) S))).toSF) (B := (UF.eq (.bool true)).toSF) (fun _ _ h => h)) <| obs_nil) fun Q' hQ a w4 s hr hd => ?_
  refine t_store (CU.agg (fQN ((btw (-q) (-p) S)))) ((fQN ((btw (-q) (-p) S))).toSF) rfl s (by kernel_rfl) rfl rfl rfl (fun _ _ h => h) (fun _ _ h => h) (qn_store) fun a w s => ?_
  refine t_set (UF.eq (.bool true)) rfl s (by kernel_rfl) (fun _ _ h => h) fun a w s => ?_
  refine tail_end rfl (hQ _ _ ?_)
  refine wpIn_seq ?_
  refine region_goS 3 ((26, .s ((fQN ((btw (-q) (-p) S))).toSF)) :: (27, .u (fQN ((-(btw (-q) (-p) S))))) :: (28, .u (UF.eq (.bool true))) :: []) s (by kernel_rfl)
    (obs_cons (ok_ldW (f := fQN ((btw (-q) (-p) S))) 3 (by kernel_rfl) (hz := qn_len _)) <| obs_cons (ok_call1 wide_wide en_31 (fun u0 W hb (h0 : QNp ((btw (-q) (-p) S)) u0 W) => rNeg_q (m := m + 95) (QNp.rv h0 hbq) (by omega) (by omega) (hT.below (s.up hb)))) <| obs_cons (ok_move) <| obs_nil) fun a w5 s => ?_
  refine t_store (CU.agg (fQN ((-(btw (-q) (-p) S))))) ((fQN ((-(btw (-q) (-p) S)))).toSF) rfl s (by kernel_rfl) rfl rfl rfl (qn_len _) (fun _ _ h => h) (qn_store) fun a w s => ?_
  replace s := s.drop [5]
  refine t_set (UF.eq (.bool true)) rfl s (by kernel_rfl) (fun _ _ h => h) fun a w s => ?_
  refine tail_end rfl ?_
  refine wpIn_ret ?_
  exact StS.resMCT s (fTup2 (fQN (btw p q S)) (fB true)) (CU.agg (fQN (-(btw (-q) (-p) S)))) rfl (by kernel_rfl) rfl rfl (qn_len _) (fun cs v W h1 h2 => ⟨_, _, rfl, by rw [← hbv]; exact h1, h2⟩)

end Go.Proofs.Wd


namespace Go.Proofs.Wd
open Go.RowKit Lb

theorem row_weak {z : Nat} {Cs Ds : List CU} (hl : Cs.length = Ds.length) (h : ∀ (i : Nat) (C D : CU), Cs[i]? = some C → Ds[i]? = some D → ∀ cs W, C.p cs W → D.p cs W) (v : Value) (W : World) (hv : (SF.row z Cs).p v W) : (SF.row z Ds).p v W := by
  obtain ⟨A, c, h1, h2, h3, h4, h5⟩ := hv
  refine ⟨A, c, by rw [← hl]; exact h1, by omega, h3, h4, fun i D hi => ?_⟩
  have hlt := (List.getElem?_eq_some_iff.1 hi).1
  obtain ⟨b, o, cs, g1, g2, g3⟩ := h5 i _ (List.getElem?_eq_getElem (by omega))
  exact ⟨b, o, cs, g1, g2, h i _ D (List.getElem?_eq_getElem (by omega)) hi cs W g3⟩
abbrev qvals (L : List QX) : List Rat := L.map QX.q
theorem row_rvs {L : List QX} {m : Nat} (hL : ∀ x, x ∈ L → x.n ≤ m ∧ x.n' ≤ m) (v : Value) (W : World) (hv : (SF.row 3 (L.map QX.cu)).p v W) : (SF.row 3 (rvs m (qvals L))).p v W := by
  refine row_weak (by simp) (fun i C D hC hD cs W h => ?_) v W hv
  rw [List.getElem?_map] at hC
  cases hx : L[i]? with
  | none => rw [hx] at hC; cases hC
  | some x =>
    rw [hx] at hC
    cases hC
    rw [List.getElem?_map, List.getElem?_map, hx] at hD
    cases hD
    have hm := hL x (List.mem_of_getElem? hx)
    exact rv_x h hm.1 hm.2
theorem row_fqs {m : Nat} {qs : List Rat} (v : Value) (W : World) (hv : (SF.row 3 (rvs m qs)).p v W) : (fQS m qs).p v W := by
  obtain ⟨A, c, h1, h2, h3, h4, h5⟩ := hv
  rw [List.length_map] at h1 h2
  refine ⟨A, c, h1, h2, h3, rfl, fun i hi => ?_⟩
  obtain ⟨b, o, cs, g1, g2, g3⟩ := h5 i (CU.agg (fRV m qs[i])) (by rw [List.getElem?_map, List.getElem?_eq_getElem hi]; rfl)
  have hl := rv_len m _ cs W g3
  match cs, hl with
  | [c0, c1, c2], _ =>
    exact ⟨b, o, c0, c1, c2, qs[i], g1, g2 0 _ rfl, g2 1 _ rfl, g2 2 _ rfl, List.getElem?_eq_getElem hi, g3⟩
theorem qx_parts {x : QX} {v : Value} {W : World} (h : QXp x.n x.n' x.k x.d v W) : x.q.num.natAbs ≤ BB ^ x.n ∧ x.q.den ≤ BB ^ x.n' := by
  obtain ⟨b, s, t, rfl, ⟨sg, A, c, l, e1, h1, h2, h3⟩, A', c', l', e2, h1', h2', h3'⟩ := h
  have hk : x.k.natAbs < BB ^ x.n := by rw [← h3, iv_abs, ← h1.len]; exact val_lt h2
  have hd : x.d < BB ^ x.n' := by rw [← h3', ← h1'.len]; exact val_lt h2'
  refine ⟨Nat.le_of_lt (Nat.lt_of_le_of_lt (mkRat_num_le _ _) hk), ?_⟩
  rcases Nat.eq_zero_or_pos x.d with e | e
  · show (mkRat x.k x.d).den ≤ _
    rw [e, Rat.mkRat_zero]
    exact Nat.pow_pos BB_pos
  · exact Nat.le_of_lt (Nat.lt_of_le_of_lt (mkRat_den_le _ _ e) hd)
def Parts (L : List QX) : Prop := ∀ x, x ∈ L → x.q.num.natAbs ≤ BB ^ x.n ∧ x.q.den ≤ BB ^ x.n'
theorem row_parts {L : List QX} {v : Value} {W : World} (h : (SF.row 3 (L.map QX.cu)).p v W) : Parts L := fun x hx => by
  obtain ⟨i, hi⟩ := List.getElem?_of_mem hx
  obtain ⟨A, c, h1, h2, h3, h4, h5⟩ := h
  obtain ⟨b, o, cs, g1, g2, g3⟩ := h5 i (QX.cu x) (by rw [List.getElem?_map, hi]; rfl)
  exact qx_parts g3
theorem gq_sum {L : List QX} (h : gq L = false) : L.length ≤ 60 ∧ ∀ k, k ≤ L.length → qlens L k ≤ 40 := by
  unfold gq at h
  rw [Bool.or_eq_false_iff] at h
  have h1 := of_decide_eq_false h.1
  have h2 := of_decide_eq_false h.2
  rw [List.length_map] at h1 h2
  refine ⟨by omega, fun k hk => ?_⟩
  have h3 : qlens L k ≤ qlens L (min L.length 61) := by
    have hmono : ∀ j, qlens L k ≤ qlens L (k + j) := fun j => by
      induction j with
      | zero => exact Nat.le_refl _
      | succ j ih =>
        refine Nat.le_trans ih ?_
        cases hx : L[k + j]? with
        | none =>
          have : qlens L (k + j + 1) = qlens L (k + j) := by unfold qlens; rw [List.take_add_one, hx]; simp
          rw [← Nat.add_assoc, this]
          exact Nat.le_refl _
        | some x =>
          rw [← Nat.add_assoc, qlens_succ hx]
          omega
    have := hmono (min L.length 61 - k)
    rwa [show k + (min L.length 61 - k) = min L.length 61 by omega] at this
  omega
theorem qAt_vals {L : List QX} {k : Nat} {x : QX} (h : L[k]? = some x) : qAt (qvals L) k = x.q := by
  simp [qAt, h]
theorem qsum_bd {L : List QX} (hp : Parts L) (hg : gq L = false) : ∀ k, k ≤ L.length → (qsum (qvals L) k).num.natAbs ≤ k * BB ^ qlens L k ∧ (qsum (qvals L) k).den ≤ BB ^ qlens L k
  | 0, _ => ⟨by show (0 : Rat).num.natAbs ≤ _; simp, by show (0 : Rat).den ≤ _; exact Nat.pow_pos BB_pos⟩
  | k + 1, hk => by
    obtain ⟨x, hx⟩ : ∃ x, L[k]? = some x := ⟨_, List.getElem?_eq_getElem hk⟩
    obtain ⟨i1, i2⟩ := qsum_bd hp hg k (by omega)
    obtain ⟨p1, p2⟩ := hp x (List.mem_of_getElem? hx)
    have hgm := gq_false hg x (List.mem_of_getElem? hx)
    have hmin : min (x.n + x.n') 1000 = x.n + x.n' := by omega
    show (qsum (qvals L) k + qAt (qvals L) k).num.natAbs ≤ _ ∧ (qsum (qvals L) k + qAt (qvals L) k).den ≤ _
    rw [qAt_vals hx, qlens_succ hx, hmin, Rat.add_def']
    generalize qsum (qvals L) k = a at *
    generalize x.q = y at *
    rw [Nat.pow_add, Nat.pow_add]
    generalize BB ^ qlens L k = P at *
    have hN : 0 < BB ^ x.n := Nat.pow_pos BB_pos
    have hD : 0 < BB ^ x.n' := Nat.pow_pos BB_pos
    generalize BB ^ x.n = N at *
    generalize BB ^ x.n' = D at *
    constructor
    · refine Nat.le_trans (mkRat_num_le _ _) ?_
      refine Nat.le_trans (Int.natAbs_add_le _ _) ?_
      rw [Int.natAbs_mul, Int.natAbs_mul, Int.natAbs_natCast, Int.natAbs_natCast]
      have e1 : a.num.natAbs * y.den ≤ k * P * D := Nat.mul_le_mul i1 p2
      have e2 : y.num.natAbs * a.den ≤ N * P := Nat.mul_le_mul p1 i2
      have e3 : k * P * D ≤ k * (P * (N * D)) := by
        rw [Nat.mul_assoc]
        refine Nat.mul_le_mul_left _ (Nat.mul_le_mul_left _ ?_)
        exact Nat.le_mul_of_pos_left _ hN
      have e4 : N * P ≤ P * (N * D) := by
        rw [Nat.mul_comm N P]
        refine Nat.mul_le_mul_left _ ?_
        exact Nat.le_mul_of_pos_right _ hD
      rw [Nat.add_mul, Nat.one_mul]
      omega
    · refine Nat.le_trans (mkRat_den_le _ _ (Nat.mul_pos a.den_pos y.den_pos)) ?_
      refine Nat.mul_le_mul i2 (Nat.le_trans p2 ?_)
      exact Nat.le_mul_of_pos_left _ hN
theorem qprod_bd {L : List QX} (hp : Parts L) (hg : gq L = false) : ∀ k, k ≤ L.length → (qprod (qvals L) k).num.natAbs ≤ BB ^ qlens L k ∧ (qprod (qvals L) k).den ≤ BB ^ qlens L k
  | 0, _ => ⟨by show (1 : Rat).num.natAbs ≤ _; exact Nat.pow_pos BB_pos, by show (1 : Rat).den ≤ _; exact Nat.pow_pos BB_pos⟩
  | k + 1, hk => by
    obtain ⟨x, hx⟩ : ∃ x, L[k]? = some x := ⟨_, List.getElem?_eq_getElem hk⟩
    obtain ⟨i1, i2⟩ := qprod_bd hp hg k (by omega)
    obtain ⟨p1, p2⟩ := hp x (List.mem_of_getElem? hx)
    have hgm := gq_false hg x (List.mem_of_getElem? hx)
    have hmin : min (x.n + x.n') 1000 = x.n + x.n' := by omega
    show (qprod (qvals L) k * qAt (qvals L) k).num.natAbs ≤ _ ∧ (qprod (qvals L) k * qAt (qvals L) k).den ≤ _
    rw [qAt_vals hx, qlens_succ hx, hmin, Rat.mul_def']
    generalize qprod (qvals L) k = a at *
    generalize x.q = y at *
    rw [Nat.pow_add, Nat.pow_add]
    generalize BB ^ qlens L k = P at *
    have hN : 0 < BB ^ x.n := Nat.pow_pos BB_pos
    have hD : 0 < BB ^ x.n' := Nat.pow_pos BB_pos
    generalize BB ^ x.n = N at *
    generalize BB ^ x.n' = D at *
    constructor
    · refine Nat.le_trans (mkRat_num_le _ _) ?_
      rw [Int.natAbs_mul]
      exact Nat.mul_le_mul i1 (Nat.le_trans p1 (Nat.le_mul_of_pos_right _ hD))
    · refine Nat.le_trans (mkRat_den_le _ _ (Nat.mul_pos a.den_pos y.den_pos)) ?_
      exact Nat.mul_le_mul i2 (Nat.le_trans p2 (Nat.le_mul_of_pos_left _ hN))
theorem qsum_qb {L : List QX} (hp : Parts L) (hg : gq L = false) (k : Nat) (hk : k ≤ (qvals L).length) : QB (qsum (qvals L) k) 42 := by
  rw [List.length_map] at hk
  obtain ⟨h1, h2⟩ := qsum_bd hp hg k hk
  obtain ⟨h3, h4⟩ := gq_sum hg
  have h5 : BB ^ qlens L k ≤ BB ^ 40 := Nat.pow_le_pow_right BB_pos (h4 k hk)
  have h6 : k * BB ^ qlens L k ≤ 60 * BB ^ 40 := Nat.mul_le_mul (by omega) h5
  refine ⟨Nat.lt_of_le_of_lt (Nat.le_trans h1 h6) ?_, Nat.lt_of_le_of_lt (Nat.le_trans h2 h5) (Nat.pow_lt_pow_right (by unfold BB; decide) (by decide))⟩
  rw [show (42 : Nat) = 2 + 40 from rfl, Nat.pow_add]
  exact Nat.mul_lt_mul_of_lt_of_le (by unfold BB; decide) (Nat.le_refl _) (Nat.pow_pos BB_pos)
theorem qprod_qb {L : List QX} (hp : Parts L) (hg : gq L = false) (k : Nat) (hk : k ≤ (qvals L).length) : QB (qprod (qvals L) k) 42 := by
  rw [List.length_map] at hk
  obtain ⟨h1, h2⟩ := qprod_bd hp hg k hk
  obtain ⟨h3, h4⟩ := gq_sum hg
  have h5 : BB ^ qlens L k < BB ^ 42 := Nat.pow_lt_pow_right (by unfold BB; decide) (by have := h4 k hk; omega)
  exact ⟨Nat.lt_of_le_of_lt h1 h5, Nat.lt_of_le_of_lt h2 h5⟩
theorem qvals_qb {L : List QX} (hp : Parts L) (hg : gq L = false) (q : Rat) (hq : q ∈ qvals L) : QB q 41 := by
  obtain ⟨x, hx, rfl⟩ := List.mem_map.1 hq
  obtain ⟨p1, p2⟩ := hp x hx
  have hgm := gq_false hg x hx
  have h5 : ∀ j, j ≤ 40 → BB ^ j < BB ^ 41 := fun j hj => Nat.pow_lt_pow_right (by unfold BB; decide) (by omega)
  exact ⟨Nat.lt_of_le_of_lt p1 (h5 _ hgm.1), Nat.lt_of_le_of_lt p2 (h5 _ hgm.2)⟩
section
variable {S : Nat → Prop} {w0 : World} {K : List (Nat × KF)} {B : List Bx} {n : Nat} {ds : List Deferred} {a : Act} {w : World}
theorem boxes_weak {c : Nat} {C : CU} : ∀ (B : List Bx), (∀ x, x ∈ B → x.t = c → ∀ cs W, x.c.p cs W → C.p cs W) → Boxes S w0 a w B → Boxes S w0 a w (setB B c C)
  | [], _, _ => trivial
  | x :: B, hw, h => by
    obtain ⟨⟨cs, h1, h2, h3, h4, h5, h6⟩, hr⟩ := h
    unfold setB
    cases e : Nat.beq x.t c with
    | true => exact ⟨⟨cs, h1, h2, h3, hw x (List.mem_cons_self ..) (Nat.eq_of_beq_eq_true e) cs w h4, h5, h6⟩, hr⟩
    | false =>
      refine ⟨⟨cs, h1, h2, h3, h4, h5, fun y hy => ?_⟩, boxes_weak B (fun y hy => hw y (List.mem_cons_of_mem _ hy)) hr⟩
      have : (y.b, y.r) ∈ (setB B c C).map (fun x => (x.b, x.r)) := List.mem_map.2 ⟨y, hy, rfl⟩
      rw [setB_b] at this
      obtain ⟨z, hz, ez⟩ := List.mem_map.1 this
      simp only [Prod.mk.injEq] at ez
      have := h6 z hz
      rw [ez.1, ez.2] at this
      exact this
theorem StS.weakB (h : StS S w0 K B n ds a w) (c : Nat) (C : CU) {z : Bx} (hB : getB B c = some z) (hu : (B.map (·.t)).Nodup) (hi : ∀ cs W, z.c.p cs W → C.p cs W) : StS S w0 K (setB B c C) n ds a w :=
  ⟨h.gr, h.size, h.nd, h.sl, boxes_weak B (fun x hx e => by
    obtain ⟨hz, hzc⟩ := getB_mem hB
    have : x = z := by
      have hinj : ∀ (B : List Bx), (B.map (·.t)).Nodup → x ∈ B → z ∈ B → x.t = z.t → x = z := by
        intro B
        induction B with
        | nil => intro _ h1; cases h1
        | cons y B ih =>
          intro hn h1 h2 e
          rw [List.map_cons, List.nodup_cons] at hn
          rcases List.mem_cons.1 h1 with h3 | h3
          · rcases List.mem_cons.1 h2 with h4 | h4
            · rw [h3, h4]
            · exact absurd (List.mem_map.2 ⟨z, h4, by rw [← e, h3]⟩) hn.1
          · rcases List.mem_cons.1 h2 with h4 | h4
            · exact absurd (List.mem_map.2 ⟨x, h3, by rw [e, h4]⟩) hn.1
            · exact ih hn.2 h3 h4 e
      exact hinj B hu hx hz (e.trans hzc.symm)
    rw [this]
    exact hi) h.bx, h.mks, h.so⟩
end
end Go.Proofs.Wd


namespace Go.Proofs.Wd
open Go.RowKit Lb

theorem rbetween_lt {W : World} {m : Nat} {u v : Value} {p q : Rat} (h : RVp m p u W) (h' : RVp m q v W) (hm : m ≤ 100) (hm0 : 0 < m) (hT : Tab W) (S : Nat) (hS : Least p q S) (hSb : S ≤ 3000) : Calls Tryz.prog 7 #[u, v] W (Ret W (fTup2 (fQN (btw p q S)) (fB true)).toSF) := by
  by_cases hq : q ≤ 0
  · exact rbetween_neg h h' hm hm0 hT S hS hSb hq
  · by_cases hp : p < 0
    · have e : btw p q S = (((0 : Int) : Rat)) := by unfold btw; rw [if_neg hq, if_pos hp]; rfl
      rw [e]
      exact rbetween_mid h h' hm hm0 hT hp (by grind)
    · exact rbetween_pos h h' hm hm0 hT S hS hSb (by grind)
theorem least_le {p q : Rat} {S : Nat} (hS : Least p q S) (hpq : p < q) (hp : QB p 40) (hq : QB q 40) : S ≤ 2560 := by
  refine hS.le (room_far hpq ?_)
  have h1 : p.den * q.den < BB ^ 40 * BB ^ 40 := Nat.mul_lt_mul_of_lt_of_lt hp.2 hq.2
  rw [← Nat.pow_add, BB_pow, show 32 * (40 + 40) = 2560 from rfl] at h1
  exact h1
end Go.Proofs.Wd


namespace Go.Proofs.Wd
open Go.RowKit Lb

theorem ok_neqC {F : Fence} {m : Nat} {P : Program} {w0 : World} {ops : Array Oper} {G : Nat → SF} {d : Tmp} {ty : TypeId} {pos : String} {aft : Array Edge} {t : TypeId} {x y : Operand} {t' : TypeId} (u : Bool) (ht : P.underlying t = some .bool) (hx : ∀ q W, (fct G x).p q W → q = .bool u) (hy : ∀ q W, (fct G y).p q W → q = .bool u) (hd : ∀ W, (G d).p (.bool false) W := by exact fun _ => rfl) : GdOK F m P w0 ops G ⟨some d, .binOp .neq t x y t', ty, pos, aft, none⟩ :=
  ok_bin (.bool u) (.bool u) (.bool false) hx hy (fun W => by simp [eqGuard]) (fun W => by simp [go_sem, ht]) hd
theorem ok_eqlC {F : Fence} {m : Nat} {P : Program} {w0 : World} {ops : Array Oper} {G : Nat → SF} {d : Tmp} {ty : TypeId} {pos : String} {aft : Array Edge} {t : TypeId} {x y : Operand} {t' : TypeId} (u : Bool) (ht : P.underlying t = some .bool) (hx : ∀ q W, (fct G x).p q W → q = .bool u) (hy : ∀ q W, (fct G y).p q W → q = .bool u) (hd : ∀ W, (G d).p (.bool true) W := by exact fun _ => rfl) : GdOK F m P w0 ops G ⟨some d, .binOp .eql t x y t', ty, pos, aft, none⟩ :=
  ok_bin (.bool u) (.bool u) (.bool true) hx hy (fun W => by simp [eqGuard]) (fun W => by simp [go_sem, ht]) hd
theorem qv_rw {W : World} {m : Nat} {k : Int} {d : Nat} {v : Value} (h : QVp m k d v W) : RVp m (mkRat k d) v W := ⟨k, d, h, rfl⟩
theorem neq_s (u : Int) : (u != u) = false := bne_self_eq_false u
theorem btw_cases {p q : Rat} (hp : QB p 40) (hq : QB q 40) : q ≤ p ∨ ∃ S, Least p q S ∧ S ≤ 2560 := by
  by_cases hc : p < q
  · obtain ⟨S, hS⟩ := exists_Least hc
    exact .inr ⟨S, hS, least_le hS hc hp hq⟩
  · exact .inl (Rat.not_lt.1 hc)

set_option maxRecDepth 100000 in
set_option maxHeartbeats 1000000 in
theorem rattells_t {W : World} {u v l y : Value} {xa xb : QX} {L : List QX} {z : Int} (hxa : QXp xa.n xa.n' xa.k xa.d u W) (hxb : QXp xb.n xb.n' xb.k xb.d v W) (hl : (SF.row 3 (L.map QX.cu)).p l W) (hzv : y = .int .i64 z) (hL : ∀ x, x ∈ [xa, xb] → x.n + x.n' < 9223372036854775808) (hLl : ∀ x, x ∈ L → x.n + x.n' < 9223372036854775808) (hz : -9223372036854775808 ≤ z ∧ z ≤ 9223372036854775807) (hT : Tab W) : Calls Tryz.prog 4 #[u, v, l, y] W (Ret W (fB true).toSF) := by
  refine run_st [(fQX xa.n xa.n' xa.k xa.d).toSF, (fQX xb.n xb.n' xb.k xb.d).toSF, SF.row 3 (L.map QX.cu), (fI z).toSF] Tryz.func4 rfl (by kernel_rfl) ⟨hxa, hxb, hl, hzv, trivial⟩ fun a s => ?_
  refine wpIn_seq ?_
  refine region_go 0 [] hmix s (by kernel_rfl)
    obs_nil fun a w1 s => ?_
  refine t_box (QX.cu xa) rfl s (by kernel_rfl) (fun v W h => qx_box h) fun b4 a w s => ?_
  refine t_box (QX.cu xb) rfl s (by kernel_rfl) (fun v W h => qx_box h) fun b5 a w s => ?_
  refine t_set (UF.eq (.bool false)) rfl s (by kernel_rfl) (fun _ _ h => h) fun a w s => ?_
  refine tail_end rfl ?_
  refine wpIn_seq ?_
  refine wpIn_seq ?_
  refine region_go 8 ((21, .s ((fQX xa.n xa.n' xa.k xa.d).toSF)) :: (22, .s ((fQX xb.n xb.n' xb.k xb.d).toSF)) :: (23, .s (SF.row 3 (([xa, xb]).map QX.cu))) :: (24, .s ((UF.eq (.bool (gq [xa, xb]))).toSF)) :: (25, .s ((UF.eq (.bool (gq [xa, xb]))).toSF)) :: (26, .s (SF.imp ((gq [xa, xb]) = false) (SF.row 3 (L.map QX.cu)))) :: (27, .s (SF.imp ((gq [xa, xb]) = false) ((UF.eq (.bool (gq L))).toSF))) :: (28, .u (UF.eq (.bool ((gq [xa, xb]) || (gq L))))) :: []) hmix s (by kernel_rfl)
    (obs_cons (ok_ldW (f := fQX xa.n xa.n' xa.k xa.d) 3 (by kernel_rfl) (hz := qx_len _ _ _ _)) <| obs_cons (ok_ldW (f := fQX xb.n xb.n' xb.k xb.d) 3 (by kernel_rfl) (hz := qx_len _ _ _ _)) <| obs_cons (ok_slice2 (fun u v W (hu : QXp xa.n xa.n' xa.k xa.d u W) (hv : QXp xb.n xb.n' xb.k xb.d v W) => sl_qx2 hu hv)) <| obs_cons (ok_call1 wide_wide en_5 (fun u0 W hb h0 => r7great_t h0 hL)) <| obs_cons (ok_move) <| obs_cons (ok_guard 25 (gq [xa, xb]) (by kernel_rfl) (fun _ _ h => h) (fun e => gd_imp [] (SF.row 3 (L.map QX.cu)) (List.forall_mem_nil _) (fun _ _ h _ => h) (by kernel_rfl) (ok_move)) (fun e W h => absurd h e)) <| obs_cons (ok_guard 25 (gq [xa, xb]) (by kernel_rfl) (fun _ _ h => h) (fun e => gd_imp [(26, SF.row 3 (L.map QX.cu))] ((UF.eq (.bool (gq L))).toSF) (List.forall_mem_cons.2 ⟨fun v W h => imp_app (c := (gq [xa, xb]) = false) (f := SF.row 3 (L.map QX.cu)) e h, List.forall_mem_nil _⟩) (fun _ _ h _ => h) (by kernel_rfl) (ok_call1 wide_wide en_5 (fun u0 W hb (h0 : (SF.row 3 (L.map QX.cu)).p u0 W) => r7great_t h0 hLl))) (fun e W h => absurd h e)) <| obs_cons (ok_pick (gq [xa, xb]) (fun _ _ h => h) (fun e v W h => pick_or h e) (fun e v W h => pick_or' (imp_app e h) e)) <| obs_nil) fun a w2 s => ?_
  refine tail_end rfl ?_
  refine StS.cond s ((gq [xa, xb]) || (gq L)) (fun _ _ h => h) (fun e => ?_) (fun e => ?_)
  · refine wpIn_seq ?_
    replace s := s.drop [8]
    refine region_go 2 ((29, .s ((UF.eq (.bool true)).toSF)) :: (8, .u (UF.eq (.bool true))) :: []) hmix s (by kernel_rfl)
      (obs_cons (ok_call0 wide_wide en_6 (fun W hb => l7wakes_t (hT.below (s.up hb)))) <| obs_cons (ok_assign) <| obs_nil) fun a w3 s => ?_
    refine tail_end rfl ?_
    refine wpIn_ret ?_
    exact StS.res1 s (t := 8) rfl (fun _ _ h => h)
  · rw [Bool.or_eq_false_iff] at e
    have hg := gq_false e.1
    have gxa := hg xa (by simp)
    have gxb := hg xb (by simp)
    have hqxa := hxa.qb gxa
    have hqxb := hxb.qb gxb
    have he2 := e.2
    have hpt := row_parts hl
    have hgl := gq_false e.2
    have hg41 : ∀ x, x ∈ L → x.n ≤ 41 ∧ x.n' ≤ 41 := fun x hx => by have := hgl x hx; omega
    have hlen : (qvals L).length ≤ 1000000 := by have := (gq_sum e.2).1; rw [List.length_map]; omega
    have hcase := btw_cases hqxa hqxb
    replace s : StS noS W [(28, .u (UF.eq (.bool ((gq [xa, xb]) || (gq L))))), (8, .u (UF.eq (.bool false))), (0, .o ((fQX xa.n xa.n' xa.k xa.d).toSF)), (1, .o ((fQX xb.n xb.n' xb.k xb.d).toSF)), (2, .o (SF.row 3 (L.map QX.cu))), (3, .o ((UF.eq (.int .i64 (z))).toSF))] [⟨5, 27, QX.cu xb, b5, false⟩, ⟨4, 27, CU.agg (fQV (40) (xa.k) (xa.d)), b4, false⟩] Tryz.f4.ntmps [] a w2 := s.weakB 4 (CU.agg (fQV 40 xa.k xa.d)) rfl (by simp) (fun cs W h => qx_qv h gxa.1 gxa.2)
    replace s : StS noS W [(28, .u (UF.eq (.bool ((gq [xa, xb]) || (gq L))))), (8, .u (UF.eq (.bool false))), (0, .o ((fQX xa.n xa.n' xa.k xa.d).toSF)), (1, .o ((fQX xb.n xb.n' xb.k xb.d).toSF)), (2, .o (SF.row 3 (L.map QX.cu))), (3, .o ((UF.eq (.int .i64 (z))).toSF))] [⟨5, 27, CU.agg (fQV (40) (xb.k) (xb.d)), b5, false⟩, ⟨4, 27, CU.agg (fQV (40) (xa.k) (xa.d)), b4, false⟩] Tryz.f4.ntmps [] a w2 := s.weakB 5 (CU.agg (fQV 40 xb.k xb.d)) rfl (by simp) (fun cs W h => qx_qv h gxb.1 gxb.2)
    refine wpIn_skip ?_
    refine wpIn_seq ?_
    refine region_go 8 ((31, .s (SF.ptr ((CU.agg (fQV (40) (xa.k) (xa.d))).cf.at 0))) :: (32, .s ((fUV (40) (xa.k)).toSF)) :: (33, .s (SF.ptr ((CU.agg (fQV (40) (xa.k) (xa.d))).cf.at 2))) :: (34, .s ((fLV (40) (xa.d)).toSF)) :: (35, .s ((fTup2 (fQN (xa.q)) (UF.eq (.int .i64 ((if xa.d = 0 then 30 else 0))))).toSF)) :: (30, .s ((fTup2 (fQN (xa.q)) (UF.eq (.int .i64 ((if xa.d = 0 then 30 else 0))))).toSF)) :: (36, .u (fQN (xa.q))) :: (37, .u (UF.eq (.int .i64 ((if xa.d = 0 then 30 else 0))))) :: []) hmix s (by kernel_rfl)
      (obs_cons (ok_fld (C := (CU.agg (fQV (40) (xa.k) (xa.d))).cf) 0 (by kernel_rfl)) <| obs_cons (ok_ldA (C := (CU.agg (fQV (40) (xa.k) (xa.d))).cf) (k := 0) 2 (by kernel_rfl) (h := qv_num)) <| obs_cons (ok_fld (C := (CU.agg (fQV (40) (xa.k) (xa.d))).cf) 2 (by kernel_rfl)) <| obs_cons (ok_ld (C := (CU.agg (fQV (40) (xa.k) (xa.d))).cf) (k := 2) (by kernel_rfl) (h := qv_den)) <| obs_cons (ok_call2 wide_wide en_20 (fun u0 u1 W hb (h0 : UV W (40) u0 (xa.k)) (h1 : LV W (40) u1 (xa.d)) => rNew_v h0 h1 (by omega) (hT.below (s.up hb)))) <| obs_cons (ok_move) <| obs_cons (ok_ext20 (A := (fQN (xa.q)).toSF) (B := (UF.eq (.int .i64 ((if xa.d = 0 then 30 else 0)))).toSF) (fun _ _ h => h)) <| obs_cons (ok_ext21 (A := (fQN (xa.q)).toSF) (B := (UF.eq (.int .i64 ((if xa.d = 0 then 30 else 0)))).toSF) (fun _ _ h => h)) <| obs_nil) fun a w4 s => ?_
    refine t_alloc (CU.len 3) (cs := [.bool false, .slice none 0 0, .slice none 0 0]) (by kernel_rfl) rfl s (by kernel_rfl) (fun W => rfl) rfl fun b9 a w s => ?_
    refine t_store (CU.agg (fQN (xa.q))) ((fQN (xa.q)).toSF) rfl s (by kernel_rfl) rfl rfl rfl (fun _ _ h => h) (fun _ _ h => h) (qn_store) fun a w s => ?_
    refine t_set (UF.eq (.int .i64 ((if xa.d = 0 then 30 else 0)))) rfl s (by kernel_rfl) (fun _ _ h => h) fun a w s => ?_
    refine tail_end rfl ?_
    refine wpIn_seq ?_
    refine region_go 8 ((39, .s (SF.ptr ((CU.agg (fQV (40) (xa.k) (xa.d))).cf.at 0))) :: (40, .s ((fUV (40) (xa.k)).toSF)) :: (41, .s (SF.ptr ((CU.agg (fQV (40) (xa.k) (xa.d))).cf.at 2))) :: (42, .s ((fLV (40) (xa.d)).toSF)) :: (43, .s ((fTup2 (fQN (xa.q)) (UF.eq (.int .i64 ((if xa.d = 0 then 30 else 0))))).toSF)) :: (38, .s ((fTup2 (fQN (xa.q)) (UF.eq (.int .i64 ((if xa.d = 0 then 30 else 0))))).toSF)) :: (44, .u (fQN (xa.q))) :: (45, .u (UF.eq (.int .i64 ((if xa.d = 0 then 30 else 0))))) :: []) hmix s (by kernel_rfl)
      (obs_cons (ok_fld (C := (CU.agg (fQV (40) (xa.k) (xa.d))).cf) 0 (by kernel_rfl)) <| obs_cons (ok_ldA (C := (CU.agg (fQV (40) (xa.k) (xa.d))).cf) (k := 0) 2 (by kernel_rfl) (h := qv_num)) <| obs_cons (ok_fld (C := (CU.agg (fQV (40) (xa.k) (xa.d))).cf) 2 (by kernel_rfl)) <| obs_cons (ok_ld (C := (CU.agg (fQV (40) (xa.k) (xa.d))).cf) (k := 2) (by kernel_rfl) (h := qv_den)) <| obs_cons (ok_call2 wide_wide en_21 (fun u0 u1 W hb (h0 : UV W (40) u0 (xa.k)) (h1 : LV W (40) u1 (xa.d)) => r7new_v h0 h1 (by omega))) <| obs_cons (ok_move) <| obs_cons (ok_ext20 (A := (fQN (xa.q)).toSF) (B := (UF.eq (.int .i64 ((if xa.d = 0 then 30 else 0)))).toSF) (fun _ _ h => h)) <| obs_cons (ok_ext21 (A := (fQN (xa.q)).toSF) (B := (UF.eq (.int .i64 ((if xa.d = 0 then 30 else 0)))).toSF) (fun _ _ h => h)) <| obs_nil) fun a w5 s => ?_
    refine t_alloc (CU.len 3) (cs := [.bool false, .slice none 0 0, .slice none 0 0]) (by kernel_rfl) rfl s (by kernel_rfl) (fun W => rfl) rfl fun b11 a w s => ?_
    refine t_store (CU.agg (fQN (xa.q))) ((fQN (xa.q)).toSF) rfl s (by kernel_rfl) rfl rfl rfl (fun _ _ h => h) (fun _ _ h => h) (qn_store) fun a w s => ?_
    refine t_set (UF.eq (.int .i64 ((if xa.d = 0 then 30 else 0)))) rfl s (by kernel_rfl) (fun _ _ h => h) fun a w s => ?_
    refine tail_end rfl ?_
    refine wpIn_seq ?_
    refine region_go 6 ((47, .s ((fQV (40) (xa.k) (xa.d)).toSF)) :: (48, .s ((fQV (40) (xb.k) (xb.d)).toSF)) :: (49, .s ((fTup2 (fQN ((xa.q / xb.q))) (UF.eq (.int .i64 ((if xb.q = 0 then 30 else 0))))).toSF)) :: (46, .s ((fTup2 (fQN ((xa.q / xb.q))) (UF.eq (.int .i64 ((if xb.q = 0 then 30 else 0))))).toSF)) :: (50, .u (fQN ((xa.q / xb.q)))) :: (51, .u (UF.eq (.int .i64 ((if xb.q = 0 then 30 else 0))))) :: []) hmix s (by kernel_rfl)
      (obs_cons (ok_ldW (f := fQV (40) (xa.k) (xa.d)) 3 (by kernel_rfl) (hz := qv_len _ _ _)) <| obs_cons (ok_ldW (f := fQV (40) (xb.k) (xb.d)) 3 (by kernel_rfl) (hz := qv_len _ _ _)) <| obs_cons (ok_call2 wide_wide en_22 (fun u0 u1 W hb (h0 : QVp (40) (xa.k) (xa.d) u0 W) (h1 : QVp (40) (xb.k) (xb.d) u1 W) => rQuo_q (qv_rw h0) (qv_rw h1) (by omega) (by omega) (hT.below (s.up hb)))) <| obs_cons (ok_move) <| obs_cons (ok_ext20 (A := (fQN ((xa.q / xb.q))).toSF) (B := (UF.eq (.int .i64 ((if xb.q = 0 then 30 else 0)))).toSF) (fun _ _ h => h)) <| obs_cons (ok_ext21 (A := (fQN ((xa.q / xb.q))).toSF) (B := (UF.eq (.int .i64 ((if xb.q = 0 then 30 else 0)))).toSF) (fun _ _ h => h)) <| obs_nil) fun a w6 s => ?_
    refine t_alloc (CU.len 3) (cs := [.bool false, .slice none 0 0, .slice none 0 0]) (by kernel_rfl) rfl s (by kernel_rfl) (fun W => rfl) rfl fun b13 a w s => ?_
    refine t_store (CU.agg (fQN ((xa.q / xb.q)))) ((fQN ((xa.q / xb.q))).toSF) rfl s (by kernel_rfl) rfl rfl rfl (fun _ _ h => h) (fun _ _ h => h) (qn_store) fun a w s => ?_
    refine t_set (UF.eq (.int .i64 ((if xb.q = 0 then 30 else 0)))) rfl s (by kernel_rfl) (fun _ _ h => h) fun a w s => ?_
    refine tail_end rfl ?_
    refine wpIn_seq ?_
    refine region_go 6 ((53, .s ((fQV (40) (xa.k) (xa.d)).toSF)) :: (54, .s ((fQV (40) (xb.k) (xb.d)).toSF)) :: (55, .s ((fTup2 (fQN ((xa.q / xb.q))) (UF.eq (.int .i64 ((if xb.q = 0 then 30 else 0))))).toSF)) :: (52, .s ((fTup2 (fQN ((xa.q / xb.q))) (UF.eq (.int .i64 ((if xb.q = 0 then 30 else 0))))).toSF)) :: (56, .u (fQN ((xa.q / xb.q)))) :: (57, .u (UF.eq (.int .i64 ((if xb.q = 0 then 30 else 0))))) :: []) hmix s (by kernel_rfl)
      (obs_cons (ok_ldW (f := fQV (40) (xa.k) (xa.d)) 3 (by kernel_rfl) (hz := qv_len _ _ _)) <| obs_cons (ok_ldW (f := fQV (40) (xb.k) (xb.d)) 3 (by kernel_rfl) (hz := qv_len _ _ _)) <| obs_cons (ok_call2 wide_wide en_23 (fun u0 u1 W hb (h0 : QVp (40) (xa.k) (xa.d) u0 W) (h1 : QVp (40) (xb.k) (xb.d) u1 W) => r7quo_q (qv_rw h0) (qv_rw h1) (by omega) (by omega))) <| obs_cons (ok_move) <| obs_cons (ok_ext20 (A := (fQN ((xa.q / xb.q))).toSF) (B := (UF.eq (.int .i64 ((if xb.q = 0 then 30 else 0)))).toSF) (fun _ _ h => h)) <| obs_cons (ok_ext21 (A := (fQN ((xa.q / xb.q))).toSF) (B := (UF.eq (.int .i64 ((if xb.q = 0 then 30 else 0)))).toSF) (fun _ _ h => h)) <| obs_nil) fun a w7 s => ?_
    refine t_alloc (CU.len 3) (cs := [.bool false, .slice none 0 0, .slice none 0 0]) (by kernel_rfl) rfl s (by kernel_rfl) (fun W => rfl) rfl fun b15 a w s => ?_
    refine t_store (CU.agg (fQN ((xa.q / xb.q)))) ((fQN ((xa.q / xb.q))).toSF) rfl s (by kernel_rfl) rfl rfl rfl (fun _ _ h => h) (fun _ _ h => h) (qn_store) fun a w s => ?_
    refine t_set (UF.eq (.int .i64 ((if xb.q = 0 then 30 else 0)))) rfl s (by kernel_rfl) (fun _ _ h => h) fun a w s => ?_
    refine tail_end rfl ?_
    refine wpIn_seq ?_
    refine wpIn_seq ?_
    refine region_go 45 ((58, .s ((fQN (xa.q)).toSF)) :: (59, .s ((fQN (xa.q)).toSF)) :: (60, .s ((UF.eq (.bool true)).toSF)) :: (61, .s ((UF.eq (.bool false)).toSF)) :: (62, .s ((UF.eq (.bool false)).toSF)) :: (63, .s ((UF.eq (.int .i64 ((if xa.d = 0 then 30 else 0)))).toSF)) :: (64, .s ((UF.eq (.int .i64 ((if xa.d = 0 then 30 else 0)))).toSF)) :: (65, .s ((UF.eq (.bool false)).toSF)) :: (66, .s ((UF.eq (.bool false)).toSF)) :: (67, .s ((UF.eq (.bool false)).toSF)) :: (68, .s ((fQN ((xa.q / xb.q))).toSF)) :: (69, .s ((fQN ((xa.q / xb.q))).toSF)) :: (70, .s ((UF.eq (.bool true)).toSF)) :: (71, .s ((UF.eq (.bool false)).toSF)) :: (72, .s ((UF.eq (.bool false)).toSF)) :: (73, .s ((UF.eq (.bool false)).toSF)) :: (74, .s ((UF.eq (.int .i64 ((if xb.q = 0 then 30 else 0)))).toSF)) :: (75, .s ((UF.eq (.int .i64 ((if xb.q = 0 then 30 else 0)))).toSF)) :: (76, .s ((UF.eq (.bool false)).toSF)) :: (77, .s ((UF.eq (.bool false)).toSF)) :: (78, .s ((UF.eq (.bool false)).toSF)) :: (79, .s ((fQV (40) (xa.k) (xa.d)).toSF)) :: (80, .s ((UF.eq (.int .i64 ((xa.q.num.sign)))).toSF)) :: (81, .s ((fQV (40) (xa.k) (xa.d)).toSF)) :: (82, .s ((UF.eq (.int .i64 ((xa.q.num.sign)))).toSF)) :: (83, .s ((UF.eq (.bool false)).toSF)) :: (84, .s ((UF.eq (.bool false)).toSF)) :: (85, .s ((UF.eq (.bool false)).toSF)) :: (86, .s ((fQV (40) (xa.k) (xa.d)).toSF)) :: (87, .s ((fQV (40) (xb.k) (xb.d)).toSF)) :: (88, .s ((UF.eq (.int .i64 ((qsg xa.q xb.q)))).toSF)) :: (89, .s ((fQV (40) (xa.k) (xa.d)).toSF)) :: (90, .s ((fQV (40) (xb.k) (xb.d)).toSF)) :: (91, .s ((UF.eq (.int .i64 ((qsg xa.q xb.q)))).toSF)) :: (92, .s ((UF.eq (.bool false)).toSF)) :: (93, .s ((UF.eq (.bool false)).toSF)) :: (94, .s ((UF.eq (.bool false)).toSF)) :: (95, .s ((fQV (40) (xa.k) (xa.d)).toSF)) :: (96, .s ((fQV (40) (xb.k) (xb.d)).toSF)) :: (97, .s ((UF.eq (.bool ((qsg xa.q xb.q == 0)))).toSF)) :: (98, .s ((fQV (40) (xa.k) (xa.d)).toSF)) :: (99, .s ((fQV (40) (xb.k) (xb.d)).toSF)) :: (100, .s ((UF.eq (.bool ((qsg xa.q xb.q == 0)))).toSF)) :: (101, .s ((UF.eq (.bool false)).toSF)) :: (102, .u (UF.eq (.bool false))) :: []) hmix s (by kernel_rfl)
      (obs_cons (ok_ldW (f := fQN (xa.q)) 3 (by kernel_rfl) (hz := qn_len _)) <| obs_cons (ok_ldW (f := fQN (xa.q)) 3 (by kernel_rfl) (hz := qn_len _)) <| obs_cons (ok_call2 wide_wide en_9 (fun u0 u1 W hb (h0 : QNp (xa.q) u0 W) (h1 : QNp (xa.q) u1 W) => l7same_t h0 h1)) <| obs_cons (ok_not (true) (fun _ _ h => h) (fun _ => rfl)) <| obs_cons (ok_move) <| obs_cons (ok_guard 62 false (by kernel_rfl) (fun _ _ h => h) (fun _ => ok_move) (fun e => absurd rfl e)) <| obs_cons (ok_guard 62 false (by kernel_rfl) (fun _ _ h => h) (fun _ => ok_move) (fun e => absurd rfl e)) <| obs_cons (ok_guard 62 false (by kernel_rfl) (fun _ _ h => h) (fun _ => ok_cmpI .i64 ((if xa.d = 0 then 30 else 0)) ((if xa.d = 0 then 30 else 0)) false (fun _ _ h => h) (fun _ _ h => h) (neq_s _) rfl) (fun e => absurd rfl e)) <| obs_cons (ok_pick false (fun _ _ h => h) (fun e => by cases e) (fun _ _ _ h => h)) <| obs_cons (ok_move) <| obs_cons (ok_guard 67 false (by kernel_rfl) (fun _ _ h => h) (fun _ => ok_ldW (f := fQN ((xa.q / xb.q))) 3 (by kernel_rfl) (hz := qn_len _)) (fun e => absurd rfl e)) <| obs_cons (ok_guard 67 false (by kernel_rfl) (fun _ _ h => h) (fun _ => ok_ldW (f := fQN ((xa.q / xb.q))) 3 (by kernel_rfl) (hz := qn_len _)) (fun e => absurd rfl e)) <| obs_cons (ok_guard 67 false (by kernel_rfl) (fun _ _ h => h) (fun _ => ok_call2 wide_wide en_9 (fun u0 u1 W hb (h0 : QNp ((xa.q / xb.q)) u0 W) (h1 : QNp ((xa.q / xb.q)) u1 W) => l7same_t h0 h1)) (fun e => absurd rfl e)) <| obs_cons (ok_guard 67 false (by kernel_rfl) (fun _ _ h => h) (fun _ => ok_not (true) (fun _ _ h => h) (fun _ => rfl)) (fun e => absurd rfl e)) <| obs_cons (ok_pick false (fun _ _ h => h) (fun e => by cases e) (fun _ _ _ h => h)) <| obs_cons (ok_move) <| obs_cons (ok_guard 73 false (by kernel_rfl) (fun _ _ h => h) (fun _ => ok_move) (fun e => absurd rfl e)) <| obs_cons (ok_guard 73 false (by kernel_rfl) (fun _ _ h => h) (fun _ => ok_move) (fun e => absurd rfl e)) <| obs_cons (ok_guard 73 false (by kernel_rfl) (fun _ _ h => h) (fun _ => ok_cmpI .i64 ((if xb.q = 0 then 30 else 0)) ((if xb.q = 0 then 30 else 0)) false (fun _ _ h => h) (fun _ _ h => h) (neq_s _) rfl) (fun e => absurd rfl e)) <| obs_cons (ok_pick false (fun _ _ h => h) (fun e => by cases e) (fun _ _ _ h => h)) <| obs_cons (ok_move) <| obs_cons (ok_guard 78 false (by kernel_rfl) (fun _ _ h => h) (fun _ => ok_ldW (f := fQV (40) (xa.k) (xa.d)) 3 (by kernel_rfl) (hz := qv_len _ _ _)) (fun e => absurd rfl e)) <| obs_cons (ok_guard 78 false (by kernel_rfl) (fun _ _ h => h) (fun _ => ok_call1 wide_wide en_24 (fun u0 W hb (h0 : QVp (40) (xa.k) (xa.d) u0 W) => rSign_q (qv_rw h0) (by omega) (by omega) (hT.below (s.up hb)))) (fun e => absurd rfl e)) <| obs_cons (ok_guard 78 false (by kernel_rfl) (fun _ _ h => h) (fun _ => ok_ldW (f := fQV (40) (xa.k) (xa.d)) 3 (by kernel_rfl) (hz := qv_len _ _ _)) (fun e => absurd rfl e)) <| obs_cons (ok_guard 78 false (by kernel_rfl) (fun _ _ h => h) (fun _ => ok_call1 wide_wide en_16 (fun u0 W hb (h0 : QVp (40) (xa.k) (xa.d) u0 W) => r7sign_q (qv_rw h0) (by omega))) (fun e => absurd rfl e)) <| obs_cons (ok_guard 78 false (by kernel_rfl) (fun _ _ h => h) (fun _ => ok_cmpI .i64 ((xa.q.num.sign)) ((xa.q.num.sign)) false (fun _ _ h => h) (fun _ _ h => h) (neq_s _) rfl) (fun e => absurd rfl e)) <| obs_cons (ok_pick false (fun _ _ h => h) (fun e => by cases e) (fun _ _ _ h => h)) <| obs_cons (ok_move) <| obs_cons (ok_guard 85 false (by kernel_rfl) (fun _ _ h => h) (fun _ => ok_ldW (f := fQV (40) (xa.k) (xa.d)) 3 (by kernel_rfl) (hz := qv_len _ _ _)) (fun e => absurd rfl e)) <| obs_cons (ok_guard 85 false (by kernel_rfl) (fun _ _ h => h) (fun _ => ok_ldW (f := fQV (40) (xb.k) (xb.d)) 3 (by kernel_rfl) (hz := qv_len _ _ _)) (fun e => absurd rfl e)) <| obs_cons (ok_guard 85 false (by kernel_rfl) (fun _ _ h => h) (fun _ => ok_call2 wide_wide en_25 (fun u0 u1 W hb (h0 : QVp (40) (xa.k) (xa.d) u0 W) (h1 : QVp (40) (xb.k) (xb.d) u1 W) => rCmp_q (qv_rw h0) (qv_rw h1) (by omega) (by omega) (hT.below (s.up hb)))) (fun e => absurd rfl e)) <| obs_cons (ok_guard 85 false (by kernel_rfl) (fun _ _ h => h) (fun _ => ok_ldW (f := fQV (40) (xa.k) (xa.d)) 3 (by kernel_rfl) (hz := qv_len _ _ _)) (fun e => absurd rfl e)) <| obs_cons (ok_guard 85 false (by kernel_rfl) (fun _ _ h => h) (fun _ => ok_ldW (f := fQV (40) (xb.k) (xb.d)) 3 (by kernel_rfl) (hz := qv_len _ _ _)) (fun e => absurd rfl e)) <| obs_cons (ok_guard 85 false (by kernel_rfl) (fun _ _ h => h) (fun _ => ok_call2 wide_wide en_8 (fun u0 u1 W hb (h0 : QVp (40) (xa.k) (xa.d) u0 W) (h1 : QVp (40) (xb.k) (xb.d) u1 W) => r7cmp_q (qv_rw h0) (qv_rw h1) (by omega) (by omega))) (fun e => absurd rfl e)) <| obs_cons (ok_guard 85 false (by kernel_rfl) (fun _ _ h => h) (fun _ => ok_cmpI .i64 ((qsg xa.q xb.q)) ((qsg xa.q xb.q)) false (fun _ _ h => h) (fun _ _ h => h) (neq_s _) rfl) (fun e => absurd rfl e)) <| obs_cons (ok_pick false (fun _ _ h => h) (fun e => by cases e) (fun _ _ _ h => h)) <| obs_cons (ok_move) <| obs_cons (ok_guard 94 false (by kernel_rfl) (fun _ _ h => h) (fun _ => ok_ldW (f := fQV (40) (xa.k) (xa.d)) 3 (by kernel_rfl) (hz := qv_len _ _ _)) (fun e => absurd rfl e)) <| obs_cons (ok_guard 94 false (by kernel_rfl) (fun _ _ h => h) (fun _ => ok_ldW (f := fQV (40) (xb.k) (xb.d)) 3 (by kernel_rfl) (hz := qv_len _ _ _)) (fun e => absurd rfl e)) <| obs_cons (ok_guard 94 false (by kernel_rfl) (fun _ _ h => h) (fun _ => ok_call2 wide_wide en_26 (fun u0 u1 W hb (h0 : QVp (40) (xa.k) (xa.d) u0 W) (h1 : QVp (40) (xb.k) (xb.d) u1 W) => rSame_q (qv_rw h0) (qv_rw h1) (by omega) (by omega) (hT.below (s.up hb)))) (fun e => absurd rfl e)) <| obs_cons (ok_guard 94 false (by kernel_rfl) (fun _ _ h => h) (fun _ => ok_ldW (f := fQV (40) (xa.k) (xa.d)) 3 (by kernel_rfl) (hz := qv_len _ _ _)) (fun e => absurd rfl e)) <| obs_cons (ok_guard 94 false (by kernel_rfl) (fun _ _ h => h) (fun _ => ok_ldW (f := fQV (40) (xb.k) (xb.d)) 3 (by kernel_rfl) (hz := qv_len _ _ _)) (fun e => absurd rfl e)) <| obs_cons (ok_guard 94 false (by kernel_rfl) (fun _ _ h => h) (fun _ => ok_call2 wide_wide en_27 (fun u0 u1 W hb (h0 : QVp (40) (xa.k) (xa.d) u0 W) (h1 : QVp (40) (xb.k) (xb.d) u1 W) => r7same_q (qv_rw h0) (qv_rw h1) (by omega) (by omega))) (fun e => absurd rfl e)) <| obs_cons (ok_guard 94 false (by kernel_rfl) (fun _ _ h => h) (fun _ => ok_neqC ((qsg xa.q xb.q == 0)) (by kernel_rfl) (fun _ _ h => h) (fun _ _ h => h)) (fun e => absurd rfl e)) <| obs_cons (ok_pick false (fun _ _ h => h) (fun e => by cases e) (fun _ _ _ h => h)) <| obs_nil) fun a w8 s => ?_
    refine tail_end rfl ?_
    refine StS.cond s false (fun _ _ h => h) (fun e => by cases e) (fun e => ?_)
    refine wpIn_skip ?_
    refine wpIn_seq ?_
    refine wpIn_seq ?_
    refine region_go 38 ((103, .s ((UF.eq (.int .i64 (z))).toSF)) :: (104, .s ((fQN (((z : Int) : Rat))).toSF)) :: (105, .s ((UF.eq (.int .i64 (z))).toSF)) :: (106, .s ((fQN (((z : Int) : Rat))).toSF)) :: (107, .s ((UF.eq (.bool true)).toSF)) :: (108, .s ((UF.eq (.bool false)).toSF)) :: (109, .s ((UF.eq (.bool false)).toSF)) :: (110, .s ((fQV (40) (xa.k) (xa.d)).toSF)) :: (111, .s ((fQN (xa.q)).toSF)) :: (112, .s ((fQV (40) (xa.k) (xa.d)).toSF)) :: (113, .s ((fQN (xa.q)).toSF)) :: (114, .s ((UF.eq (.bool true)).toSF)) :: (115, .s ((UF.eq (.bool false)).toSF)) :: (116, .s ((UF.eq (.bool false)).toSF)) :: (117, .s ((UF.eq (.bool false)).toSF)) :: (118, .s ((fQV (40) (xa.k) (xa.d)).toSF)) :: (119, .s ((fQN ((-xa.q))).toSF)) :: (120, .s ((fQV (40) (xa.k) (xa.d)).toSF)) :: (121, .s ((fQN ((-xa.q))).toSF)) :: (122, .s ((UF.eq (.bool true)).toSF)) :: (123, .s ((UF.eq (.bool false)).toSF)) :: (124, .s ((UF.eq (.bool false)).toSF)) :: (125, .s ((UF.eq (.bool false)).toSF)) :: (126, .s (SF.row 3 (L.map QX.cu))) :: (127, .s ((fQN ((qsum (qvals L) (qvals L).length))).toSF)) :: (128, .s (SF.row 3 (L.map QX.cu))) :: (129, .s ((fQN ((qsum (qvals L) (qvals L).length))).toSF)) :: (130, .s ((UF.eq (.bool true)).toSF)) :: (131, .s ((UF.eq (.bool false)).toSF)) :: (132, .s ((UF.eq (.bool false)).toSF)) :: (133, .s ((UF.eq (.bool false)).toSF)) :: (134, .s (SF.row 3 (L.map QX.cu))) :: (135, .s ((fQN ((qprod (qvals L) (qvals L).length))).toSF)) :: (136, .s (SF.row 3 (L.map QX.cu))) :: (137, .s ((fQN ((qprod (qvals L) (qvals L).length))).toSF)) :: (138, .s ((UF.eq (.bool true)).toSF)) :: (139, .s ((UF.eq (.bool false)).toSF)) :: (140, .u (UF.eq (.bool false))) :: []) hmix s (by kernel_rfl)
      (obs_cons (ok_move) <| obs_cons (ok_call1 wide_wide en_28 (fun u0 W hb (h0 : u0 = .int .i64 (z)) => rof_w z h0 hz)) <| obs_cons (ok_move) <| obs_cons (ok_call1 wide_wide en_10 (fun u0 W hb (h0 : u0 = .int .i64 (z)) => r7of_w z h0 hz)) <| obs_cons (ok_call2 wide_wide en_9 (fun u0 u1 W hb (h0 : QNp (((z : Int) : Rat)) u0 W) (h1 : QNp (((z : Int) : Rat)) u1 W) => l7same_t h0 h1)) <| obs_cons (ok_not (true) (fun _ _ h => h) (fun _ => rfl)) <| obs_cons (ok_move) <| obs_cons (ok_guard 109 false (by kernel_rfl) (fun _ _ h => h) (fun _ => ok_ldW (f := fQV (40) (xa.k) (xa.d)) 3 (by kernel_rfl) (hz := qv_len _ _ _)) (fun e => absurd rfl e)) <| obs_cons (ok_guard 109 false (by kernel_rfl) (fun _ _ h => h) (fun _ => ok_call1 wide_wide en_29 (fun u0 W hb (h0 : QVp (40) (xa.k) (xa.d) u0 W) => rNorm_q (qv_rw h0) (by omega) (by omega) (hT.below (s.up hb)))) (fun e => absurd rfl e)) <| obs_cons (ok_guard 109 false (by kernel_rfl) (fun _ _ h => h) (fun _ => ok_ldW (f := fQV (40) (xa.k) (xa.d)) 3 (by kernel_rfl) (hz := qv_len _ _ _)) (fun e => absurd rfl e)) <| obs_cons (ok_guard 109 false (by kernel_rfl) (fun _ _ h => h) (fun _ => ok_call1 wide_wide en_30 (fun u0 W hb (h0 : QVp (40) (xa.k) (xa.d) u0 W) => r7norm_q (qv_rw h0) (by omega))) (fun e => absurd rfl e)) <| obs_cons (ok_guard 109 false (by kernel_rfl) (fun _ _ h => h) (fun _ => ok_call2 wide_wide en_9 (fun u0 u1 W hb (h0 : QNp (xa.q) u0 W) (h1 : QNp (xa.q) u1 W) => l7same_t h0 h1)) (fun e => absurd rfl e)) <| obs_cons (ok_guard 109 false (by kernel_rfl) (fun _ _ h => h) (fun _ => ok_not (true) (fun _ _ h => h) (fun _ => rfl)) (fun e => absurd rfl e)) <| obs_cons (ok_pick false (fun _ _ h => h) (fun e => by cases e) (fun _ _ _ h => h)) <| obs_cons (ok_move) <| obs_cons (ok_guard 117 false (by kernel_rfl) (fun _ _ h => h) (fun _ => ok_ldW (f := fQV (40) (xa.k) (xa.d)) 3 (by kernel_rfl) (hz := qv_len _ _ _)) (fun e => absurd rfl e)) <| obs_cons (ok_guard 117 false (by kernel_rfl) (fun _ _ h => h) (fun _ => ok_call1 wide_wide en_31 (fun u0 W hb (h0 : QVp (40) (xa.k) (xa.d) u0 W) => rNeg_q (qv_rw h0) (by omega) (by omega) (hT.below (s.up hb)))) (fun e => absurd rfl e)) <| obs_cons (ok_guard 117 false (by kernel_rfl) (fun _ _ h => h) (fun _ => ok_ldW (f := fQV (40) (xa.k) (xa.d)) 3 (by kernel_rfl) (hz := qv_len _ _ _)) (fun e => absurd rfl e)) <| obs_cons (ok_guard 117 false (by kernel_rfl) (fun _ _ h => h) (fun _ => ok_call1 wide_wide en_32 (fun u0 W hb (h0 : QVp (40) (xa.k) (xa.d) u0 W) => r7neg_q (qv_rw h0) (by omega) (by omega))) (fun e => absurd rfl e)) <| obs_cons (ok_guard 117 false (by kernel_rfl) (fun _ _ h => h) (fun _ => ok_call2 wide_wide en_9 (fun u0 u1 W hb (h0 : QNp ((-xa.q)) u0 W) (h1 : QNp ((-xa.q)) u1 W) => l7same_t h0 h1)) (fun e => absurd rfl e)) <| obs_cons (ok_guard 117 false (by kernel_rfl) (fun _ _ h => h) (fun _ => ok_not (true) (fun _ _ h => h) (fun _ => rfl)) (fun e => absurd rfl e)) <| obs_cons (ok_pick false (fun _ _ h => h) (fun e => by cases e) (fun _ _ _ h => h)) <| obs_cons (ok_move) <| obs_cons (ok_guard 125 false (by kernel_rfl) (fun _ _ h => h) (fun _ => ok_move) (fun e => absurd rfl e)) <| obs_cons (ok_guard 125 false (by kernel_rfl) (fun _ _ h => h) (fun _ => ok_call1 wide_wide en_33 (fun u0 W hb (h0 : (SF.row 3 (L.map QX.cu)).p u0 W) => radd_w 42 (row_fqs _ _ (row_rvs (m := 40) hgl _ _ h0)) (by omega) (by omega) (qsum_qb hpt he2) (hT.below (s.up hb)))) (fun e => absurd rfl e)) <| obs_cons (ok_guard 125 false (by kernel_rfl) (fun _ _ h => h) (fun _ => ok_move) (fun e => absurd rfl e)) <| obs_cons (ok_guard 125 false (by kernel_rfl) (fun _ _ h => h) (fun _ => ok_call1 wide_wide en_17 (fun u0 W hb (h0 : (SF.row 3 (L.map QX.cu)).p u0 W) => r7add_q 42 (row_rvs (m := 41) hg41 _ _ h0) (by omega) (by omega) (by omega) hlen (qvals_qb hpt he2) (qsum_qb hpt he2))) (fun e => absurd rfl e)) <| obs_cons (ok_guard 125 false (by kernel_rfl) (fun _ _ h => h) (fun _ => ok_call2 wide_wide en_9 (fun u0 u1 W hb (h0 : QNp ((qsum (qvals L) (qvals L).length)) u0 W) (h1 : QNp ((qsum (qvals L) (qvals L).length)) u1 W) => l7same_t h0 h1)) (fun e => absurd rfl e)) <| obs_cons (ok_guard 125 false (by kernel_rfl) (fun _ _ h => h) (fun _ => ok_not (true) (fun _ _ h => h) (fun _ => rfl)) (fun e => absurd rfl e)) <| obs_cons (ok_pick false (fun _ _ h => h) (fun e => by cases e) (fun _ _ _ h => h)) <| obs_cons (ok_move) <| obs_cons (ok_guard 133 false (by kernel_rfl) (fun _ _ h => h) (fun _ => ok_move) (fun e => absurd rfl e)) <| obs_cons (ok_guard 133 false (by kernel_rfl) (fun _ _ h => h) (fun _ => ok_call1 wide_wide en_34 (fun u0 W hb (h0 : (SF.row 3 (L.map QX.cu)).p u0 W) => rmulq_w 42 (row_fqs _ _ (row_rvs (m := 40) hgl _ _ h0)) (by omega) (by omega) (qprod_qb hpt he2) (hT.below (s.up hb)))) (fun e => absurd rfl e)) <| obs_cons (ok_guard 133 false (by kernel_rfl) (fun _ _ h => h) (fun _ => ok_move) (fun e => absurd rfl e)) <| obs_cons (ok_guard 133 false (by kernel_rfl) (fun _ _ h => h) (fun _ => ok_call1 wide_wide en_19 (fun u0 W hb (h0 : (SF.row 3 (L.map QX.cu)).p u0 W) => r7mul_q 42 (row_rvs (m := 41) hg41 _ _ h0) (by omega) (by omega) (by omega) hlen (qvals_qb hpt he2) (qprod_qb hpt he2))) (fun e => absurd rfl e)) <| obs_cons (ok_guard 133 false (by kernel_rfl) (fun _ _ h => h) (fun _ => ok_call2 wide_wide en_9 (fun u0 u1 W hb (h0 : QNp ((qprod (qvals L) (qvals L).length)) u0 W) (h1 : QNp ((qprod (qvals L) (qvals L).length)) u1 W) => l7same_t h0 h1)) (fun e => absurd rfl e)) <| obs_cons (ok_guard 133 false (by kernel_rfl) (fun _ _ h => h) (fun _ => ok_not (true) (fun _ _ h => h) (fun _ => rfl)) (fun e => absurd rfl e)) <| obs_cons (ok_pick false (fun _ _ h => h) (fun e => by cases e) (fun _ _ _ h => h)) <| obs_nil) fun a w9 s => ?_
    refine tail_end rfl ?_
    refine StS.cond s false (fun _ _ h => h) (fun e => by cases e) (fun e => ?_)
    refine wpIn_skip ?_
    refine wpIn_seq ?_
    rcases hcase with hc | ⟨S, hS, hSb⟩
    · refine region_go 6 ((142, .s ((fQV (40) (xa.k) (xa.d)).toSF)) :: (143, .s ((fQV (40) (xb.k) (xb.d)).toSF)) :: (144, .s ((fTup2 (fQN ((((0 : Int) : Rat)))) (UF.eq (.bool false))).toSF)) :: (141, .s ((fTup2 (fQN ((((0 : Int) : Rat)))) (UF.eq (.bool false))).toSF)) :: (145, .u (fQN ((((0 : Int) : Rat))))) :: (146, .u (UF.eq (.bool false))) :: []) hmix s (by kernel_rfl)
        (obs_cons (ok_ldW (f := fQV (40) (xa.k) (xa.d)) 3 (by kernel_rfl) (hz := qv_len _ _ _)) <| obs_cons (ok_ldW (f := fQV (40) (xb.k) (xb.d)) 3 (by kernel_rfl) (hz := qv_len _ _ _)) <| obs_cons (ok_call2 wide_wide en_7 (fun u0 u1 W hb (h0 : QVp (40) (xa.k) (xa.d) u0 W) (h1 : QVp (40) (xb.k) (xb.d) u1 W) => rbetween_ge (qv_rw h0) (qv_rw h1) (by omega) (by omega) (hT.below (s.up hb)) hc)) <| obs_cons (ok_move) <| obs_cons (ok_ext20 (A := (fQN ((((0 : Int) : Rat)))).toSF) (B := (UF.eq (.bool false)).toSF) (fun _ _ h => h)) <| obs_cons (ok_ext21 (A := (fQN ((((0 : Int) : Rat)))).toSF) (B := (UF.eq (.bool false)).toSF) (fun _ _ h => h)) <| obs_nil) fun a w10 s => ?_
      refine t_alloc (CU.len 3) (cs := [.bool false, .slice none 0 0, .slice none 0 0]) (by kernel_rfl) rfl s (by kernel_rfl) (fun W => rfl) rfl fun b17 a w s => ?_
      refine t_store (CU.agg (fQN ((((0 : Int) : Rat))))) ((fQN ((((0 : Int) : Rat)))).toSF) rfl s (by kernel_rfl) rfl rfl rfl (fun _ _ h => h) (fun _ _ h => h) (qn_store) fun a w s => ?_
      refine t_set (UF.eq (.bool false)) rfl s (by kernel_rfl) (fun _ _ h => h) fun a w s => ?_
      refine tail_end rfl ?_
      refine wpIn_seq ?_
      refine region_go 6 ((148, .s ((fQV (40) (xa.k) (xa.d)).toSF)) :: (149, .s ((fQV (40) (xb.k) (xb.d)).toSF)) :: (150, .s ((fTup2 (fQN ((((0 : Int) : Rat)))) (UF.eq (.bool false))).toSF)) :: (147, .s ((fTup2 (fQN ((((0 : Int) : Rat)))) (UF.eq (.bool false))).toSF)) :: (151, .u (fQN ((((0 : Int) : Rat))))) :: (152, .u (UF.eq (.bool false))) :: []) hmix s (by kernel_rfl)
        (obs_cons (ok_ldW (f := fQV (40) (xa.k) (xa.d)) 3 (by kernel_rfl) (hz := qv_len _ _ _)) <| obs_cons (ok_ldW (f := fQV (40) (xb.k) (xb.d)) 3 (by kernel_rfl) (hz := qv_len _ _ _)) <| obs_cons (ok_call2 wide_wide en_35 (fun u0 u1 W hb (h0 : QVp (40) (xa.k) (xa.d) u0 W) (h1 : QVp (40) (xb.k) (xb.d) u1 W) => r7between_ge (qv_rw h0) (qv_rw h1) (by omega) (by omega) hc)) <| obs_cons (ok_move) <| obs_cons (ok_ext20 (A := (fQN ((((0 : Int) : Rat)))).toSF) (B := (UF.eq (.bool false)).toSF) (fun _ _ h => h)) <| obs_cons (ok_ext21 (A := (fQN ((((0 : Int) : Rat)))).toSF) (B := (UF.eq (.bool false)).toSF) (fun _ _ h => h)) <| obs_nil) fun a w11 s => ?_
      refine t_alloc (CU.len 3) (cs := [.bool false, .slice none 0 0, .slice none 0 0]) (by kernel_rfl) rfl s (by kernel_rfl) (fun W => rfl) rfl fun b19 a w s => ?_
      refine t_store (CU.agg (fQN ((((0 : Int) : Rat))))) ((fQN ((((0 : Int) : Rat)))).toSF) rfl s (by kernel_rfl) rfl rfl rfl (fun _ _ h => h) (fun _ _ h => h) (qn_store) fun a w s => ?_
      refine t_set (UF.eq (.bool false)) rfl s (by kernel_rfl) (fun _ _ h => h) fun a w s => ?_
      refine tail_end rfl ?_
      refine wpIn_seq ?_
      replace s := s.drop [8]
      refine region_go 37 ((153, .s ((fQN ((((0 : Int) : Rat)))).toSF)) :: (154, .s ((fQN ((((0 : Int) : Rat)))).toSF)) :: (155, .s ((UF.eq (.bool true)).toSF)) :: (156, .s ((UF.eq (.bool true)).toSF)) :: (157, .s ((UF.eq (.bool false)).toSF)) :: (158, .s ((UF.eq (.bool false)).toSF)) :: (159, .s ((UF.eq (.bool true)).toSF)) :: (160, .s ((UF.eq (.bool true)).toSF)) :: (161, .s ((UF.eq (.bool true)).toSF)) :: (162, .s ((fQV (40) (xa.k) (xa.d)).toSF)) :: (163, .s ((fQV (40) (xb.k) (xb.d)).toSF)) :: (164, .s ((fQN ((xa.q - xb.q))).toSF)) :: (165, .s ((fQV (40) (xa.k) (xa.d)).toSF)) :: (166, .s ((fQV (40) (xb.k) (xb.d)).toSF)) :: (167, .s ((fQN ((xa.q - xb.q))).toSF)) :: (168, .s ((UF.eq (.bool true)).toSF)) :: (169, .s ((UF.eq (.bool true)).toSF)) :: (170, .s ((UF.eq (.bool true)).toSF)) :: (171, .s ((fQV (40) (xa.k) (xa.d)).toSF)) :: (172, .s ((fQV (40) (xb.k) (xb.d)).toSF)) :: (173, .s ((fQN (((xa.q + xb.q) / 2))).toSF)) :: (174, .s ((fQV (40) (xa.k) (xa.d)).toSF)) :: (175, .s ((fQV (40) (xb.k) (xb.d)).toSF)) :: (176, .s ((fQN (((xa.q + xb.q) / 2))).toSF)) :: (177, .s ((UF.eq (.bool true)).toSF)) :: (178, .s ((UF.eq (.bool true)).toSF)) :: (179, .s ((UF.eq (.bool true)).toSF)) :: (180, .s ((fQV (40) (xa.k) (xa.d)).toSF)) :: (181, .s ((fNV ((xa.q.num / (xa.q.den : Int)))).toSF)) :: (182, .s ((fQV (40) (xa.k) (xa.d)).toSF)) :: (183, .s ((fNV ((xa.q.num / (xa.q.den : Int)))).toSF)) :: (184, .s ((UF.eq (.bool true)).toSF)) :: (185, .s ((UF.eq (.bool true)).toSF)) :: (186, .s ((UF.eq (.bool true)).toSF)) :: (187, .s ((UF.eq (.bool true)).toSF)) :: (188, .s ((UF.eq (.bool true)).toSF)) :: (8, .u (UF.eq (.bool true))) :: []) hmix s (by kernel_rfl)
        (obs_cons (ok_ldW (f := fQN ((((0 : Int) : Rat)))) 3 (by kernel_rfl) (hz := qn_len _)) <| obs_cons (ok_ldW (f := fQN ((((0 : Int) : Rat)))) 3 (by kernel_rfl) (hz := qn_len _)) <| obs_cons (ok_call2 wide_wide en_9 (fun u0 u1 W hb (h0 : QNp ((((0 : Int) : Rat))) u0 W) (h1 : QNp ((((0 : Int) : Rat))) u1 W) => l7same_t h0 h1)) <| obs_cons (ok_move) <| obs_cons (ok_guard 156 true (by kernel_rfl) (fun _ _ h => h) (fun _ => ok_move) (fun e => absurd rfl e)) <| obs_cons (ok_guard 156 true (by kernel_rfl) (fun _ _ h => h) (fun _ => ok_move) (fun e => absurd rfl e)) <| obs_cons (ok_guard 156 true (by kernel_rfl) (fun _ _ h => h) (fun _ => ok_eqlC (false) (by kernel_rfl) (fun _ _ h => h) (fun _ _ h => h)) (fun e => absurd rfl e)) <| obs_cons (ok_pick true (fun _ _ h => h) (fun _ _ _ h => h) (fun e => by cases e)) <| obs_cons (ok_move) <| obs_cons (ok_guard 161 true (by kernel_rfl) (fun _ _ h => h) (fun _ => ok_ldW (f := fQV (40) (xa.k) (xa.d)) 3 (by kernel_rfl) (hz := qv_len _ _ _)) (fun e => absurd rfl e)) <| obs_cons (ok_guard 161 true (by kernel_rfl) (fun _ _ h => h) (fun _ => ok_ldW (f := fQV (40) (xb.k) (xb.d)) 3 (by kernel_rfl) (hz := qv_len _ _ _)) (fun e => absurd rfl e)) <| obs_cons (ok_guard 161 true (by kernel_rfl) (fun _ _ h => h) (fun _ => ok_call2 wide_wide en_36 (fun u0 u1 W hb (h0 : QVp (40) (xa.k) (xa.d) u0 W) (h1 : QVp (40) (xb.k) (xb.d) u1 W) => rSub_q (qv_rw h0) (qv_rw h1) (by omega) (by omega) (hT.below (s.up hb)))) (fun e => absurd rfl e)) <| obs_cons (ok_guard 161 true (by kernel_rfl) (fun _ _ h => h) (fun _ => ok_ldW (f := fQV (40) (xa.k) (xa.d)) 3 (by kernel_rfl) (hz := qv_len _ _ _)) (fun e => absurd rfl e)) <| obs_cons (ok_guard 161 true (by kernel_rfl) (fun _ _ h => h) (fun _ => ok_ldW (f := fQV (40) (xb.k) (xb.d)) 3 (by kernel_rfl) (hz := qv_len _ _ _)) (fun e => absurd rfl e)) <| obs_cons (ok_guard 161 true (by kernel_rfl) (fun _ _ h => h) (fun _ => ok_call2 wide_wide en_15 (fun u0 u1 W hb (h0 : QVp (40) (xa.k) (xa.d) u0 W) (h1 : QVp (40) (xb.k) (xb.d) u1 W) => r7sub_q (qv_rw h0) (qv_rw h1) (by omega) (by omega))) (fun e => absurd rfl e)) <| obs_cons (ok_guard 161 true (by kernel_rfl) (fun _ _ h => h) (fun _ => ok_call2 wide_wide en_9 (fun u0 u1 W hb (h0 : QNp ((xa.q - xb.q)) u0 W) (h1 : QNp ((xa.q - xb.q)) u1 W) => l7same_t h0 h1)) (fun e => absurd rfl e)) <| obs_cons (ok_pick true (fun _ _ h => h) (fun _ _ _ h => h) (fun e => by cases e)) <| obs_cons (ok_move) <| obs_cons (ok_guard 170 true (by kernel_rfl) (fun _ _ h => h) (fun _ => ok_ldW (f := fQV (40) (xa.k) (xa.d)) 3 (by kernel_rfl) (hz := qv_len _ _ _)) (fun e => absurd rfl e)) <| obs_cons (ok_guard 170 true (by kernel_rfl) (fun _ _ h => h) (fun _ => ok_ldW (f := fQV (40) (xb.k) (xb.d)) 3 (by kernel_rfl) (hz := qv_len _ _ _)) (fun e => absurd rfl e)) <| obs_cons (ok_guard 170 true (by kernel_rfl) (fun _ _ h => h) (fun _ => ok_call2 wide_wide en_37 (fun u0 u1 W hb (h0 : QVp (40) (xa.k) (xa.d) u0 W) (h1 : QVp (40) (xb.k) (xb.d) u1 W) => rMid_q (qv_rw h0) (qv_rw h1) (by omega) (by omega) (hT.below (s.up hb)))) (fun e => absurd rfl e)) <| obs_cons (ok_guard 170 true (by kernel_rfl) (fun _ _ h => h) (fun _ => ok_ldW (f := fQV (40) (xa.k) (xa.d)) 3 (by kernel_rfl) (hz := qv_len _ _ _)) (fun e => absurd rfl e)) <| obs_cons (ok_guard 170 true (by kernel_rfl) (fun _ _ h => h) (fun _ => ok_ldW (f := fQV (40) (xb.k) (xb.d)) 3 (by kernel_rfl) (hz := qv_len _ _ _)) (fun e => absurd rfl e)) <| obs_cons (ok_guard 170 true (by kernel_rfl) (fun _ _ h => h) (fun _ => ok_call2 wide_wide en_38 (fun u0 u1 W hb (h0 : QVp (40) (xa.k) (xa.d) u0 W) (h1 : QVp (40) (xb.k) (xb.d) u1 W) => r7mid_q (qv_rw h0) (qv_rw h1) (by omega) (by omega))) (fun e => absurd rfl e)) <| obs_cons (ok_guard 170 true (by kernel_rfl) (fun _ _ h => h) (fun _ => ok_call2 wide_wide en_9 (fun u0 u1 W hb (h0 : QNp (((xa.q + xb.q) / 2)) u0 W) (h1 : QNp (((xa.q + xb.q) / 2)) u1 W) => l7same_t h0 h1)) (fun e => absurd rfl e)) <| obs_cons (ok_pick true (fun _ _ h => h) (fun _ _ _ h => h) (fun e => by cases e)) <| obs_cons (ok_move) <| obs_cons (ok_guard 179 true (by kernel_rfl) (fun _ _ h => h) (fun _ => ok_ldW (f := fQV (40) (xa.k) (xa.d)) 3 (by kernel_rfl) (hz := qv_len _ _ _)) (fun e => absurd rfl e)) <| obs_cons (ok_guard 179 true (by kernel_rfl) (fun _ _ h => h) (fun _ => ok_call1 wide_wide en_40 (fun u0 W hb (h0 : QVp (40) (xa.k) (xa.d) u0 W) => rFloor_q (qv_rw h0) (by omega) (by omega) (hT.below (s.up hb)))) (fun e => absurd rfl e)) <| obs_cons (ok_guard 179 true (by kernel_rfl) (fun _ _ h => h) (fun _ => ok_ldW (f := fQV (40) (xa.k) (xa.d)) 3 (by kernel_rfl) (hz := qv_len _ _ _)) (fun e => absurd rfl e)) <| obs_cons (ok_guard 179 true (by kernel_rfl) (fun _ _ h => h) (fun _ => ok_call1 wide_wide en_18 (fun u0 W hb (h0 : QVp (40) (xa.k) (xa.d) u0 W) => r7floor_q (qv_rw h0) (by omega) (by omega))) (fun e => absurd rfl e)) <| obs_cons (ok_guard 179 true (by kernel_rfl) (fun _ _ h => h) (fun _ => ok_call2 wide_wide en_39 (fun u0 u1 W hb (h0 : NV W u0 ((xa.q.num / (xa.q.den : Int)))) (h1 : NV W u1 ((xa.q.num / (xa.q.den : Int)))) => r5told_t h0 h1)) (fun e => absurd rfl e)) <| obs_cons (ok_pick true (fun _ _ h => h) (fun _ _ _ h => h) (fun e => by cases e)) <| obs_cons (ok_move) <| obs_cons (ok_guard 186 true (by kernel_rfl) (fun _ _ h => h) (fun _ => ok_call0 wide_wide en_6 (fun W hb => l7wakes_t (hT.below (s.up hb)))) (fun e => absurd rfl e)) <| obs_cons (ok_pick true (fun _ _ h => h) (fun _ _ _ h => h) (fun e => by cases e)) <| obs_cons (ok_assign) <| obs_nil) fun a w12 s => ?_
      refine tail_end rfl ?_
      refine wpIn_ret ?_
      exact StS.res1 s (t := 8) rfl (fun _ _ h => h)
    · refine region_go 6 ((142, .s ((fQV (40) (xa.k) (xa.d)).toSF)) :: (143, .s ((fQV (40) (xb.k) (xb.d)).toSF)) :: (144, .s ((fTup2 (fQN ((btw xa.q xb.q S))) (UF.eq (.bool true))).toSF)) :: (141, .s ((fTup2 (fQN ((btw xa.q xb.q S))) (UF.eq (.bool true))).toSF)) :: (145, .u (fQN ((btw xa.q xb.q S)))) :: (146, .u (UF.eq (.bool true))) :: []) hmix s (by kernel_rfl)
        (obs_cons (ok_ldW (f := fQV (40) (xa.k) (xa.d)) 3 (by kernel_rfl) (hz := qv_len _ _ _)) <| obs_cons (ok_ldW (f := fQV (40) (xb.k) (xb.d)) 3 (by kernel_rfl) (hz := qv_len _ _ _)) <| obs_cons (ok_call2 wide_wide en_7 (fun u0 u1 W hb (h0 : QVp (40) (xa.k) (xa.d) u0 W) (h1 : QVp (40) (xb.k) (xb.d) u1 W) => rbetween_lt (qv_rw h0) (qv_rw h1) (by omega) (by omega) (hT.below (s.up hb)) S hS (by omega))) <| obs_cons (ok_move) <| obs_cons (ok_ext20 (A := (fQN ((btw xa.q xb.q S))).toSF) (B := (UF.eq (.bool true)).toSF) (fun _ _ h => h)) <| obs_cons (ok_ext21 (A := (fQN ((btw xa.q xb.q S))).toSF) (B := (UF.eq (.bool true)).toSF) (fun _ _ h => h)) <| obs_nil) fun a w13 s => ?_
      refine t_alloc (CU.len 3) (cs := [.bool false, .slice none 0 0, .slice none 0 0]) (by kernel_rfl) rfl s (by kernel_rfl) (fun W => rfl) rfl fun b17 a w s => ?_
      refine t_store (CU.agg (fQN ((btw xa.q xb.q S)))) ((fQN ((btw xa.q xb.q S))).toSF) rfl s (by kernel_rfl) rfl rfl rfl (fun _ _ h => h) (fun _ _ h => h) (qn_store) fun a w s => ?_
      refine t_set (UF.eq (.bool true)) rfl s (by kernel_rfl) (fun _ _ h => h) fun a w s => ?_
      refine tail_end rfl ?_
      refine wpIn_seq ?_
      refine region_go 6 ((148, .s ((fQV (40) (xa.k) (xa.d)).toSF)) :: (149, .s ((fQV (40) (xb.k) (xb.d)).toSF)) :: (150, .s ((fTup2 (fQN ((btw xa.q xb.q S))) (UF.eq (.bool true))).toSF)) :: (147, .s ((fTup2 (fQN ((btw xa.q xb.q S))) (UF.eq (.bool true))).toSF)) :: (151, .u (fQN ((btw xa.q xb.q S)))) :: (152, .u (UF.eq (.bool true))) :: []) hmix s (by kernel_rfl)
        (obs_cons (ok_ldW (f := fQV (40) (xa.k) (xa.d)) 3 (by kernel_rfl) (hz := qv_len _ _ _)) <| obs_cons (ok_ldW (f := fQV (40) (xb.k) (xb.d)) 3 (by kernel_rfl) (hz := qv_len _ _ _)) <| obs_cons (ok_call2 wide_wide en_35 (fun u0 u1 W hb (h0 : QVp (40) (xa.k) (xa.d) u0 W) (h1 : QVp (40) (xb.k) (xb.d) u1 W) => r7between_lt (qv_rw h0) (qv_rw h1) (by omega) (by omega) S hS (by omega))) <| obs_cons (ok_move) <| obs_cons (ok_ext20 (A := (fQN ((btw xa.q xb.q S))).toSF) (B := (UF.eq (.bool true)).toSF) (fun _ _ h => h)) <| obs_cons (ok_ext21 (A := (fQN ((btw xa.q xb.q S))).toSF) (B := (UF.eq (.bool true)).toSF) (fun _ _ h => h)) <| obs_nil) fun a w14 s => ?_
      refine t_alloc (CU.len 3) (cs := [.bool false, .slice none 0 0, .slice none 0 0]) (by kernel_rfl) rfl s (by kernel_rfl) (fun W => rfl) rfl fun b19 a w s => ?_
      refine t_store (CU.agg (fQN ((btw xa.q xb.q S)))) ((fQN ((btw xa.q xb.q S))).toSF) rfl s (by kernel_rfl) rfl rfl rfl (fun _ _ h => h) (fun _ _ h => h) (qn_store) fun a w s => ?_
      refine t_set (UF.eq (.bool true)) rfl s (by kernel_rfl) (fun _ _ h => h) fun a w s => ?_
      refine tail_end rfl ?_
      refine wpIn_seq ?_
      replace s := s.drop [8]
      refine region_go 37 ((153, .s ((fQN ((btw xa.q xb.q S))).toSF)) :: (154, .s ((fQN ((btw xa.q xb.q S))).toSF)) :: (155, .s ((UF.eq (.bool true)).toSF)) :: (156, .s ((UF.eq (.bool true)).toSF)) :: (157, .s ((UF.eq (.bool true)).toSF)) :: (158, .s ((UF.eq (.bool true)).toSF)) :: (159, .s ((UF.eq (.bool true)).toSF)) :: (160, .s ((UF.eq (.bool true)).toSF)) :: (161, .s ((UF.eq (.bool true)).toSF)) :: (162, .s ((fQV (40) (xa.k) (xa.d)).toSF)) :: (163, .s ((fQV (40) (xb.k) (xb.d)).toSF)) :: (164, .s ((fQN ((xa.q - xb.q))).toSF)) :: (165, .s ((fQV (40) (xa.k) (xa.d)).toSF)) :: (166, .s ((fQV (40) (xb.k) (xb.d)).toSF)) :: (167, .s ((fQN ((xa.q - xb.q))).toSF)) :: (168, .s ((UF.eq (.bool true)).toSF)) :: (169, .s ((UF.eq (.bool true)).toSF)) :: (170, .s ((UF.eq (.bool true)).toSF)) :: (171, .s ((fQV (40) (xa.k) (xa.d)).toSF)) :: (172, .s ((fQV (40) (xb.k) (xb.d)).toSF)) :: (173, .s ((fQN (((xa.q + xb.q) / 2))).toSF)) :: (174, .s ((fQV (40) (xa.k) (xa.d)).toSF)) :: (175, .s ((fQV (40) (xb.k) (xb.d)).toSF)) :: (176, .s ((fQN (((xa.q + xb.q) / 2))).toSF)) :: (177, .s ((UF.eq (.bool true)).toSF)) :: (178, .s ((UF.eq (.bool true)).toSF)) :: (179, .s ((UF.eq (.bool true)).toSF)) :: (180, .s ((fQV (40) (xa.k) (xa.d)).toSF)) :: (181, .s ((fNV ((xa.q.num / (xa.q.den : Int)))).toSF)) :: (182, .s ((fQV (40) (xa.k) (xa.d)).toSF)) :: (183, .s ((fNV ((xa.q.num / (xa.q.den : Int)))).toSF)) :: (184, .s ((UF.eq (.bool true)).toSF)) :: (185, .s ((UF.eq (.bool true)).toSF)) :: (186, .s ((UF.eq (.bool true)).toSF)) :: (187, .s ((UF.eq (.bool true)).toSF)) :: (188, .s ((UF.eq (.bool true)).toSF)) :: (8, .u (UF.eq (.bool true))) :: []) hmix s (by kernel_rfl)
        (obs_cons (ok_ldW (f := fQN ((btw xa.q xb.q S))) 3 (by kernel_rfl) (hz := qn_len _)) <| obs_cons (ok_ldW (f := fQN ((btw xa.q xb.q S))) 3 (by kernel_rfl) (hz := qn_len _)) <| obs_cons (ok_call2 wide_wide en_9 (fun u0 u1 W hb (h0 : QNp ((btw xa.q xb.q S)) u0 W) (h1 : QNp ((btw xa.q xb.q S)) u1 W) => l7same_t h0 h1)) <| obs_cons (ok_move) <| obs_cons (ok_guard 156 true (by kernel_rfl) (fun _ _ h => h) (fun _ => ok_move) (fun e => absurd rfl e)) <| obs_cons (ok_guard 156 true (by kernel_rfl) (fun _ _ h => h) (fun _ => ok_move) (fun e => absurd rfl e)) <| obs_cons (ok_guard 156 true (by kernel_rfl) (fun _ _ h => h) (fun _ => ok_eqlC (true) (by kernel_rfl) (fun _ _ h => h) (fun _ _ h => h)) (fun e => absurd rfl e)) <| obs_cons (ok_pick true (fun _ _ h => h) (fun _ _ _ h => h) (fun e => by cases e)) <| obs_cons (ok_move) <| obs_cons (ok_guard 161 true (by kernel_rfl) (fun _ _ h => h) (fun _ => ok_ldW (f := fQV (40) (xa.k) (xa.d)) 3 (by kernel_rfl) (hz := qv_len _ _ _)) (fun e => absurd rfl e)) <| obs_cons (ok_guard 161 true (by kernel_rfl) (fun _ _ h => h) (fun _ => ok_ldW (f := fQV (40) (xb.k) (xb.d)) 3 (by kernel_rfl) (hz := qv_len _ _ _)) (fun e => absurd rfl e)) <| obs_cons (ok_guard 161 true (by kernel_rfl) (fun _ _ h => h) (fun _ => ok_call2 wide_wide en_36 (fun u0 u1 W hb (h0 : QVp (40) (xa.k) (xa.d) u0 W) (h1 : QVp (40) (xb.k) (xb.d) u1 W) => rSub_q (qv_rw h0) (qv_rw h1) (by omega) (by omega) (hT.below (s.up hb)))) (fun e => absurd rfl e)) <| obs_cons (ok_guard 161 true (by kernel_rfl) (fun _ _ h => h) (fun _ => ok_ldW (f := fQV (40) (xa.k) (xa.d)) 3 (by kernel_rfl) (hz := qv_len _ _ _)) (fun e => absurd rfl e)) <| obs_cons (ok_guard 161 true (by kernel_rfl) (fun _ _ h => h) (fun _ => ok_ldW (f := fQV (40) (xb.k) (xb.d)) 3 (by kernel_rfl) (hz := qv_len _ _ _)) (fun e => absurd rfl e)) <| obs_cons (ok_guard 161 true (by kernel_rfl) (fun _ _ h => h) (fun _ => ok_call2 wide_wide en_15 (fun u0 u1 W hb (h0 : QVp (40) (xa.k) (xa.d) u0 W) (h1 : QVp (40) (xb.k) (xb.d) u1 W) => r7sub_q (qv_rw h0) (qv_rw h1) (by omega) (by omega))) (fun e => absurd rfl e)) <| obs_cons (ok_guard 161 true (by kernel_rfl) (fun _ _ h => h) (fun _ => ok_call2 wide_wide en_9 (fun u0 u1 W hb (h0 : QNp ((xa.q - xb.q)) u0 W) (h1 : QNp ((xa.q - xb.q)) u1 W) => l7same_t h0 h1)) (fun e => absurd rfl e)) <| obs_cons (ok_pick true (fun _ _ h => h) (fun _ _ _ h => h) (fun e => by cases e)) <| obs_cons (ok_move) <| obs_cons (ok_guard 170 true (by kernel_rfl) (fun _ _ h => h) (fun _ => ok_ldW (f := fQV (40) (xa.k) (xa.d)) 3 (by kernel_rfl) (hz := qv_len _ _ _)) (fun e => absurd rfl e)) <| obs_cons (ok_guard 170 true (by kernel_rfl) (fun _ _ h => h) (fun _ => ok_ldW (f := fQV (40) (xb.k) (xb.d)) 3 (by kernel_rfl) (hz := qv_len _ _ _)) (fun e => absurd rfl e)) <| obs_cons (ok_guard 170 true (by kernel_rfl) (fun _ _ h => h) (fun _ => ok_call2 wide_wide en_37 (fun u0 u1 W hb (h0 : QVp (40) (xa.k) (xa.d) u0 W) (h1 : QVp (40) (xb.k) (xb.d) u1 W) => rMid_q (qv_rw h0) (qv_rw h1) (by omega) (by omega) (hT.below (s.up hb)))) (fun e => absurd rfl e)) <| obs_cons (ok_guard 170 true (by kernel_rfl) (fun _ _ h => h) (fun _ => ok_ldW (f := fQV (40) (xa.k) (xa.d)) 3 (by kernel_rfl) (hz := qv_len _ _ _)) (fun e => absurd rfl e)) <| obs_cons (ok_guard 170 true (by kernel_rfl) (fun _ _ h => h) (fun _ => ok_ldW (f := fQV (40) (xb.k) (xb.d)) 3 (by kernel_rfl) (hz := qv_len _ _ _)) (fun e => absurd rfl e)) <| obs_cons (ok_guard 170 true (by kernel_rfl) (fun _ _ h => h) (fun _ => ok_call2 wide_wide en_38 (fun u0 u1 W hb (h0 : QVp (40) (xa.k) (xa.d) u0 W) (h1 : QVp (40) (xb.k) (xb.d) u1 W) => r7mid_q (qv_rw h0) (qv_rw h1) (by omega) (by omega))) (fun e => absurd rfl e)) <| obs_cons (ok_guard 170 true (by kernel_rfl) (fun _ _ h => h) (fun _ => ok_call2 wide_wide en_9 (fun u0 u1 W hb (h0 : QNp (((xa.q + xb.q) / 2)) u0 W) (h1 : QNp (((xa.q + xb.q) / 2)) u1 W) => l7same_t h0 h1)) (fun e => absurd rfl e)) <| obs_cons (ok_pick true (fun _ _ h => h) (fun _ _ _ h => h) (fun e => by cases e)) <| obs_cons (ok_move) <| obs_cons (ok_guard 179 true (by kernel_rfl) (fun _ _ h => h) (fun _ => ok_ldW (f := fQV (40) (xa.k) (xa.d)) 3 (by kernel_rfl) (hz := qv_len _ _ _)) (fun e => absurd rfl e)) <| obs_cons (ok_guard 179 true (by kernel_rfl) (fun _ _ h => h) (fun _ => ok_call1 wide_wide en_40 (fun u0 W hb (h0 : QVp (40) (xa.k) (xa.d) u0 W) => rFloor_q (qv_rw h0) (by omega) (by omega) (hT.below (s.up hb)))) (fun e => absurd rfl e)) <| obs_cons (ok_guard 179 true (by kernel_rfl) (fun _ _ h => h) (fun _ => ok_ldW (f := fQV (40) (xa.k) (xa.d)) 3 (by kernel_rfl) (hz := qv_len _ _ _)) (fun e => absurd rfl e)) <| obs_cons (ok_guard 179 true (by kernel_rfl) (fun _ _ h => h) (fun _ => ok_call1 wide_wide en_18 (fun u0 W hb (h0 : QVp (40) (xa.k) (xa.d) u0 W) => r7floor_q (qv_rw h0) (by omega) (by omega))) (fun e => absurd rfl e)) <| obs_cons (ok_guard 179 true (by kernel_rfl) (fun _ _ h => h) (fun _ => ok_call2 wide_wide en_39 (fun u0 u1 W hb (h0 : NV W u0 ((xa.q.num / (xa.q.den : Int)))) (h1 : NV W u1 ((xa.q.num / (xa.q.den : Int)))) => r5told_t h0 h1)) (fun e => absurd rfl e)) <| obs_cons (ok_pick true (fun _ _ h => h) (fun _ _ _ h => h) (fun e => by cases e)) <| obs_cons (ok_move) <| obs_cons (ok_guard 186 true (by kernel_rfl) (fun _ _ h => h) (fun _ => ok_call0 wide_wide en_6 (fun W hb => l7wakes_t (hT.below (s.up hb)))) (fun e => absurd rfl e)) <| obs_cons (ok_pick true (fun _ _ h => h) (fun _ _ _ h => h) (fun e => by cases e)) <| obs_cons (ok_assign) <| obs_nil) fun a w15 s => ?_
      refine tail_end rfl ?_
      refine wpIn_ret ?_
      exact StS.res1 s (t := 8) rfl (fun _ _ h => h)

end Go.Proofs.Wd

