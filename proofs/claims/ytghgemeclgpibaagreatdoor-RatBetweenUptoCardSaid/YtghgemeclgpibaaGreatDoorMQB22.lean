/- The walk of RatBetween and what it needs. -/
import Derived.Test.YtghgemeclgpibaaGreatDoorMQB21
import Derived.Test.YtghgemeclgpibaaGreatDoorMQB20
namespace Go.Proofs.Wd
open Go.RowKit Lb

theorem rbetween_lt {W : World} {m : Nat} {u v : Value} {p q : Rat} (h : RVp m p u W) (h' : RVp m q v W) (hm : m ≤ 100) (hm0 : 0 < m) (hT : Tab W) (S : Nat) (hS : Least p q S) (hSb : S ≤ 3000) : Calls Tryz.prog 7 #[u, v] W (Ret W (fTup2 (fQN (btw p q S)) (fB true)).toSF) := by
  by_cases hq : q ≤ 0
  · exact rbetween_neg h h' hm hm0 hT S hS hSb hq
  · by_cases hp : p < 0
    · have e : btw p q S = (((0 : Int) : Rat)) := by unfold btw; rw [if_neg hq, if_pos hp]; rfl
      rw [e]
      exact rbetween_mid h h' hm hm0 hT hp (by grind)
    · exact rbetween_pos h h' hm hm0 hT S hS hSb (by grind)
theorem half_bd {S m : Nat} (h : S - 1 < 32 * m) : Bd ((((2 ^ (S - 1) : Nat) : Int))) m := by
  unfold Bd
  rw [Int.natAbs_natCast]
  exact Nat.lt_of_lt_of_le (Nat.pow_lt_pow_right (by decide) h) (two_pow_BB (Nat.le_refl _))
theorem btw_qb {p q : Rat} {m S : Nat} (hp : QB p m) (hq : QB q m) (hS : S ≤ 3000) : QB (btw p q S) (m + 95) := by
  unfold btw
  split
  · exact (upto_qb hq.neg hS).neg
  · split
    · exact QB.zero (by have := hp.pos; omega)
    · exact upto_qb hp hS
theorem least_le {p q : Rat} {S : Nat} (hS : Least p q S) (hpq : p < q) (hp : QB p 40) (hq : QB q 40) : S ≤ 2560 := by
  refine hS.le (room_far hpq ?_)
  have h1 : p.den * q.den < BB ^ 40 * BB ^ 40 := Nat.mul_lt_mul_of_lt_of_lt hp.2 hq.2
  rw [← Nat.pow_add, BB_pow, show 32 * (40 + 40) = 2560 from rfl] at h1
  exact h1
theorem qsg_nlt {p q : Rat} (h : q ≤ p) : decide (qsg p q < 0) = false := by
  refine decide_eq_false ?_
  rcases qsg_tri p q with e | e | e
  · have := qsg_lt.1 e; grind
  · omega
  · omega
theorem qsg_ylt {p q : Rat} (h : p < q) : decide (qsg p q < 0) = true := by rw [qsg_lt.2 h]; decide
theorem qsg_yge {p q : Rat} (h : q ≤ p) : decide (qsg p q ≥ 0) = true := by
  have := qsg_nlt h
  rw [decide_eq_false_iff_not] at this
  exact decide_eq_true (by omega)
theorem qsg_nge {p q : Rat} (h : p < q) : decide (qsg p q ≥ 0) = false := by rw [qsg_lt.2 h]; decide
theorem near_ge {p q : Rat} {S : Nat} (h : Least p q S) (h0 : 0 < btw p q S) : btw p q S - mkRat 1 (2 ^ S) ≤ p := by
  have := btw_near h (by grind)
  rwa [if_neg (by grind)] at this
theorem near_le {p q : Rat} {S : Nat} (h : Least p q S) (h0 : btw p q S < 0) : q ≤ btw p q S + mkRat 1 (2 ^ S) := by
  have := btw_near h (by grind)
  rwa [if_pos h0] at this
theorem half_ge {p q : Rat} {S : Nat} (h : Least p q S) (h0 : S ≠ 0) : q * ((((2 ^ (S - 1) : Nat) : Int)) : Rat) ≤ (((fl (p * ((((2 ^ (S - 1) : Nat) : Int)) : Rat)) : Int)) : Rat) + ((1 : Int) : Rat) := by
  have h1 := h.2 (S - 1) (by omega)
  unfold Room at h1
  have e : ((((2 ^ (S - 1) : Nat) : Int)) : Rat) = twoP (S - 1) := rfl
  rw [e, ← Rat.intCast_add]
  exact Rat.not_lt.1 h1
theorem b_one {W : World} {M d : Nat} {u v : Value} (hd : d < BB ^ M) (hM : 0 < M) (hu : NV W u 1) (hv : NatV W v d) : ∃ cells, Tryz.prog.built 27 [(0, u), (1, v)] = some cells ∧ RVp M (mkRat 1 d) (.agg cells) W := by
  obtain ⟨cells, h1, h2⟩ := b_ratV (m := M) (NV.uv' hu (Nat.lt_of_lt_of_le (show (1 : Int).natAbs < BB ^ 1 by decide) (Nat.pow_le_pow_right BB_pos hM))) (NatV.lv hv hd)
  exact ⟨cells, h1, _, _, h2, rfl⟩

theorem cut2 {F : Fence} {m : Nat} {P : Program} {Q : Exit → Act → World → Prop} {a : Act} {w : World} {A B rest : Code} (I : Act → World → Prop) (hr : ∀ a w, I a w → rest.wpIn F m P Q a w) (h : (∀ a w, I a w → rest.wpIn F m P Q a w) → (Code.seq A (Code.seq B rest)).wpIn F m P Q a w) : (Code.seq A (Code.seq B rest)).wpIn F m P Q a w := h hr
theorem qb_fl7 {q : Rat} {m : Nat} (h : QB q m) : QB ((q.num / (q.den : Int) : Int) : Rat) m := by
  refine QB.int ?_ h.pos
  have h1 := h.1
  unfold Bd at h1 ⊢
  refine Nat.lt_of_le_of_lt ?_ h1
  have hd : (0 : Int) < q.den := by have := q.den_pos; omega
  rcases Int.lt_or_le q.num 0 with hn | hn
  · have h2 : q.num ≤ q.num / (q.den : Int) := by
      rw [Int.le_ediv_iff_mul_le hd]
      have : q.num * (q.den : Int) ≤ q.num * 1 := Int.mul_le_mul_of_nonpos_left (by omega) (by omega)
      omega
    have h3 : q.num / (q.den : Int) < 0 := Int.ediv_neg_of_neg_of_pos hn hd
    omega
  · have h2 := Int.ediv_le_self (q.den : Int) hn
    have h3 := Int.ediv_nonneg hn (Int.le_of_lt hd)
    omega
theorem sign_z {q : Rat} (h : q = 0) : (q.num.sign != 0) = false := by rw [h]; rfl
theorem sign_nz {q : Rat} (h : q ≠ 0) : (q.num.sign != 0) = true := by
  rw [bne_iff_ne]
  intro e
  rw [Int.sign_eq_zero_iff_zero, Rat.num_eq_zero] at e
  exact h e
theorem eq_one (S : Nat) : ((((S + 1 : Nat) : Int)) == 1) = decide (S = 0) := by
  rw [Bool.eq_iff_iff, beq_iff_eq, decide_eq_true_iff]
  omega

set_option maxRecDepth 100000 in
set_option maxHeartbeats 1000000 in
theorem ratbetween_ge {W : World} {u v : Value} {xa xb : QX} (hxa : QXp xa.n xa.n' xa.k xa.d u W) (hxb : QXp xb.n xb.n' xb.k xb.d v W) (hL : ∀ x, x ∈ [xa, xb] → x.n + x.n' < 9223372036854775808) (hT : Tab W) (hc : xb.q ≤ xa.q) : Calls Tryz.prog 3 #[u, v] W (Ret W (fB true).toSF) := by
  refine run_st [(fQX xa.n xa.n' xa.k xa.d).toSF, (fQX xb.n xb.n' xb.k xb.d).toSF] Tryz.func3 rfl (by kernel_rfl) ⟨hxa, hxb, trivial⟩ fun a s => ?_
  refine wpIn_seq ?_
  refine region_go 0 [] hmix s (by kernel_rfl)
    obs_nil fun a w1 s => ?_
  refine t_box (QX.cu xa) rfl s (by kernel_rfl) (fun v W h => qx_box h) fun b2 a w s => ?_
  refine t_box (QX.cu xb) rfl s (by kernel_rfl) (fun v W h => qx_box h) fun b3 a w s => ?_
  refine t_set (UF.eq (.bool false)) rfl s (by kernel_rfl) (fun _ _ h => h) fun a w s => ?_
  refine tail_end rfl ?_
  refine wpIn_seq ?_
  refine wpIn_seq ?_
  refine region_go 4 ((12, .s ((fQX xa.n xa.n' xa.k xa.d).toSF)) :: (13, .s ((fQX xb.n xb.n' xb.k xb.d).toSF)) :: (14, .s (SF.row 3 (([xa, xb]).map QX.cu))) :: (15, .u (UF.eq (.bool (gq [xa, xb])))) :: []) hmix s (by kernel_rfl)
    (obs_cons (ok_ldW (f := fQX xa.n xa.n' xa.k xa.d) 3 (by kernel_rfl) (hz := qx_len _ _ _ _)) <| obs_cons (ok_ldW (f := fQX xb.n xb.n' xb.k xb.d) 3 (by kernel_rfl) (hz := qx_len _ _ _ _)) <| obs_cons (ok_slice2 (fun u v W (hu : QXp xa.n xa.n' xa.k xa.d u W) (hv : QXp xb.n xb.n' xb.k xb.d v W) => sl_qx2 hu hv)) <| obs_cons (ok_call1 wide_wide en_5 (fun u0 W hb h0 => r7great_t h0 hL)) <| obs_nil) fun a w2 s => ?_
  refine tail_end rfl ?_
  refine StS.cond s (gq [xa, xb]) (fun _ _ h => h) (fun e => ?_) (fun e => ?_)
  · refine wpIn_seq ?_
    replace s := s.drop [4]
    refine region_go 2 ((16, .s ((UF.eq (.bool true)).toSF)) :: (4, .u (UF.eq (.bool true))) :: []) hmix s (by kernel_rfl)
      (obs_cons (ok_call0 wide_wide en_6 (fun W hb => l7wakes_t (hT.below (s.up hb)))) <| obs_cons (ok_assign) <| obs_nil) fun a w3 s => ?_
    refine tail_end rfl ?_
    refine wpIn_ret ?_
    exact StS.res1 s (t := 4) rfl (fun _ _ h => h)
  · have hg := gq_false e
    have gxa := hg xa (by simp)
    have gxb := hg xb (by simp)
    have hqxa := hxa.qb gxa
    have hqxb := hxb.qb gxb
    refine wpIn_skip ?_
    refine wpIn_seq ?_
    refine region_go 6 ((18, .s ((fQX xa.n xa.n' xa.k xa.d).toSF)) :: (19, .s ((fQX xb.n xb.n' xb.k xb.d).toSF)) :: (20, .s ((fTup2 (fQN ((((0 : Int) : Rat)))) (UF.eq (.bool false))).toSF)) :: (17, .s ((fTup2 (fQN ((((0 : Int) : Rat)))) (UF.eq (.bool false))).toSF)) :: (21, .u (fQN ((((0 : Int) : Rat))))) :: (22, .u (UF.eq (.bool false))) :: []) hmix s (by kernel_rfl)
      (obs_cons (ok_ldW (f := fQX xa.n xa.n' xa.k xa.d) 3 (by kernel_rfl) (hz := qx_len _ _ _ _)) <| obs_cons (ok_ldW (f := fQX xb.n xb.n' xb.k xb.d) 3 (by kernel_rfl) (hz := qx_len _ _ _ _)) <| obs_cons (ok_call2 wide_wide en_7 (fun u0 u1 W hb (h0 : QXp xa.n xa.n' xa.k xa.d u0 W) (h1 : QXp xb.n xb.n' xb.k xb.d u1 W) => rbetween_ge (rv_x (m := 40) h0 (by omega) (by omega)) (rv_x (m := 40) h1 (by omega) (by omega)) (by omega) (by omega) (hT.below (s.up hb)) hc)) <| obs_cons (ok_move) <| obs_cons (ok_ext20 (A := (fQN ((((0 : Int) : Rat)))).toSF) (B := (UF.eq (.bool false)).toSF) (fun _ _ h => h)) <| obs_cons (ok_ext21 (A := (fQN ((((0 : Int) : Rat)))).toSF) (B := (UF.eq (.bool false)).toSF) (fun _ _ h => h)) <| obs_nil) fun a w4 s => ?_
    refine t_alloc (CU.len 3) (cs := [.bool false, .slice none 0 0, .slice none 0 0]) (by kernel_rfl) rfl s (by kernel_rfl) (fun W => rfl) rfl fun b5 a w s => ?_
    refine t_store (CU.agg (fQN ((((0 : Int) : Rat))))) ((fQN ((((0 : Int) : Rat)))).toSF) rfl s (by kernel_rfl) rfl rfl rfl (fun _ _ h => h) (fun _ _ h => h) (qn_store) fun a w s => ?_
    refine t_set (UF.eq (.bool false)) rfl s (by kernel_rfl) (fun _ _ h => h) fun a w s => ?_
    refine tail_end rfl ?_
    refine wpIn_seq ?_
    refine wpIn_seq ?_
    refine region_go 4 ((23, .s ((fQX xa.n xa.n' xa.k xa.d).toSF)) :: (24, .s ((fQX xb.n xb.n' xb.k xb.d).toSF)) :: (25, .s ((UF.eq (.int .i64 ((qsg xa.q xb.q)))).toSF)) :: (26, .u (UF.eq (.bool true))) :: []) hmix s (by kernel_rfl)
      (obs_cons (ok_ldW (f := fQX xa.n xa.n' xa.k xa.d) 3 (by kernel_rfl) (hz := qx_len _ _ _ _)) <| obs_cons (ok_ldW (f := fQX xb.n xb.n' xb.k xb.d) 3 (by kernel_rfl) (hz := qx_len _ _ _ _)) <| obs_cons (ok_call2 wide_wide en_8 (fun u0 u1 W hb (h0 : QXp xa.n xa.n' xa.k xa.d u0 W) (h1 : QXp xb.n xb.n' xb.k xb.d u1 W) => r7cmp_q (rv_x (m := 40) h0 (by omega) (by omega)) (rv_x (m := 40) h1 (by omega) (by omega)) (by omega) (by omega))) <| obs_cons (ok_cmpI .i64 ((qsg xa.q xb.q)) (0) true (fun _ _ h => h) (fun _ _ h => h) (by exact qsg_yge hc) rfl) <| obs_nil) fun a w5 s => ?_
    refine tail_end rfl ?_
    refine StS.cond s true (fun _ _ h => h) (fun e => ?_) (fun e => by cases e)
    refine wpIn_seq ?_
    replace s := s.drop [4]
    refine region_go 11 ((27, .s ((UF.eq (.bool false)).toSF)) :: (28, .s ((UF.eq (.bool true)).toSF)) :: (29, .s ((UF.eq (.bool true)).toSF)) :: (30, .s ((fQN ((((0 : Int) : Rat)))).toSF)) :: (31, .s ((fQN ((((0 : Int) : Rat)))).toSF)) :: (32, .s ((UF.eq (.bool true)).toSF)) :: (33, .s ((UF.eq (.bool true)).toSF)) :: (34, .s ((UF.eq (.bool true)).toSF)) :: (35, .s ((UF.eq (.bool true)).toSF)) :: (36, .s ((UF.eq (.bool true)).toSF)) :: (4, .u (UF.eq (.bool true))) :: []) hmix s (by kernel_rfl)
      (obs_cons (ok_move) <| obs_cons (ok_not (false) (fun _ _ h => h) (fun _ => rfl)) <| obs_cons (ok_move) <| obs_cons (ok_guard 29 true (by kernel_rfl) (fun _ _ h => h) (fun _ => ok_ldW (f := fQN ((((0 : Int) : Rat)))) 3 (by kernel_rfl) (hz := qn_len _)) (fun e => absurd rfl e)) <| obs_cons (ok_guard 29 true (by kernel_rfl) (fun _ _ h => h) (fun _ => ok_call1 wide_wide en_10 (fun u0 W hb (h0 : u0 = .int .i64 (0)) => r7of_w (0) h0 (by decide))) (fun e => absurd rfl e)) <| obs_cons (ok_guard 29 true (by kernel_rfl) (fun _ _ h => h) (fun _ => ok_call2 wide_wide en_9 (fun u0 u1 W hb (h0 : QNp ((((0 : Int) : Rat))) u0 W) (h1 : QNp ((((0 : Int) : Rat))) u1 W) => l7same_t h0 h1)) (fun e => absurd rfl e)) <| obs_cons (ok_pick true (fun _ _ h => h) (fun _ _ _ h => h) (fun e => by cases e)) <| obs_cons (ok_move) <| obs_cons (ok_guard 34 true (by kernel_rfl) (fun _ _ h => h) (fun _ => ok_call0 wide_wide en_6 (fun W hb => l7wakes_t (hT.below (s.up hb)))) (fun e => absurd rfl e)) <| obs_cons (ok_pick true (fun _ _ h => h) (fun _ _ _ h => h) (fun e => by cases e)) <| obs_cons (ok_assign) <| obs_nil) fun a w6 s => ?_
    refine tail_end rfl ?_
    refine wpIn_ret ?_
    exact StS.res1 s (t := 4) rfl (fun _ _ h => h)

set_option maxRecDepth 100000 in
set_option maxHeartbeats 1000000 in
theorem ratbetween_lt {W : World} {u v : Value} {xa xb : QX} (hxa : QXp xa.n xa.n' xa.k xa.d u W) (hxb : QXp xb.n xb.n' xb.k xb.d v W) (hL : ∀ x, x ∈ [xa, xb] → x.n + x.n' < 9223372036854775808) (hT : Tab W) (hc : xa.q < xb.q) : Calls Tryz.prog 3 #[u, v] W (Ret W (fB true).toSF) := by
  refine run_st [(fQX xa.n xa.n' xa.k xa.d).toSF, (fQX xb.n xb.n' xb.k xb.d).toSF] Tryz.func3 rfl (by kernel_rfl) ⟨hxa, hxb, trivial⟩ fun a s => ?_
  refine wpIn_seq ?_
  refine region_go 0 [] hmix s (by kernel_rfl)
    obs_nil fun a w1 s => ?_
  refine t_box (QX.cu xa) rfl s (by kernel_rfl) (fun v W h => qx_box h) fun b2 a w s => ?_
  refine t_box (QX.cu xb) rfl s (by kernel_rfl) (fun v W h => qx_box h) fun b3 a w s => ?_
  refine t_set (UF.eq (.bool false)) rfl s (by kernel_rfl) (fun _ _ h => h) fun a w s => ?_
  refine tail_end rfl ?_
  refine wpIn_seq ?_
  refine wpIn_seq ?_
  refine region_go 4 ((12, .s ((fQX xa.n xa.n' xa.k xa.d).toSF)) :: (13, .s ((fQX xb.n xb.n' xb.k xb.d).toSF)) :: (14, .s (SF.row 3 (([xa, xb]).map QX.cu))) :: (15, .u (UF.eq (.bool (gq [xa, xb])))) :: []) hmix s (by kernel_rfl)
    (obs_cons (ok_ldW (f := fQX xa.n xa.n' xa.k xa.d) 3 (by kernel_rfl) (hz := qx_len _ _ _ _)) <| obs_cons (ok_ldW (f := fQX xb.n xb.n' xb.k xb.d) 3 (by kernel_rfl) (hz := qx_len _ _ _ _)) <| obs_cons (ok_slice2 (fun u v W (hu : QXp xa.n xa.n' xa.k xa.d u W) (hv : QXp xb.n xb.n' xb.k xb.d v W) => sl_qx2 hu hv)) <| obs_cons (ok_call1 wide_wide en_5 (fun u0 W hb h0 => r7great_t h0 hL)) <| obs_nil) fun a w2 s => ?_
  refine tail_end rfl ?_
  refine StS.cond s (gq [xa, xb]) (fun _ _ h => h) (fun e => ?_) (fun e => ?_)
  · refine wpIn_seq ?_
    replace s := s.drop [4]
    refine region_go 2 ((16, .s ((UF.eq (.bool true)).toSF)) :: (4, .u (UF.eq (.bool true))) :: []) hmix s (by kernel_rfl)
      (obs_cons (ok_call0 wide_wide en_6 (fun W hb => l7wakes_t (hT.below (s.up hb)))) <| obs_cons (ok_assign) <| obs_nil) fun a w3 s => ?_
    refine tail_end rfl ?_
    refine wpIn_ret ?_
    exact StS.res1 s (t := 4) rfl (fun _ _ h => h)
  · have hg := gq_false e
    have gxa := hg xa (by simp)
    have gxb := hg xb (by simp)
    have hqxa := hxa.qb gxa
    have hqxb := hxb.qb gxb
    obtain ⟨S, hS⟩ := exists_Least hc
    have hSb := least_le hS hc hqxa hqxb
    have hqr : QB (btw xa.q xb.q S) 135 := btw_qb hqxa hqxb (by omega)
    have hlt := btw_lt hS
    have hr3 : (btw xa.q xb.q S) < 0 ∨ (btw xa.q xb.q S) = 0 ∨ 0 < (btw xa.q xb.q S) := by grind
    have hqo : QB (mkRat 1 (2 ^ S)) 135 := QB.of (Nat.lt_of_lt_of_le (show (1 : Int).natAbs < BB ^ 1 by decide) (Nat.pow_le_pow_right BB_pos (by omega))) (by have h9 := hqr.2; rwa [btw_den hS] at h9) (by omega)
    have hup : ∀ W u0 u1 (sh : Nat), NatV W u0 1 → u1 = .int .i64 ((sh : Nat) : Int) → sh ≤ 3000 → Calls Tryz.prog 13 #[u0, u1] W (Ret W (fNat (2 ^ sh)).toSF) := fun W u0 u1 sh h0 h1 hs => by
      have := rupw_v (NatV.lv (m := 1) h0 (by unfold BB; decide)) h1 (by omega) (by omega)
      rw [Nat.one_mul] at this
      exact this
    refine wpIn_skip ?_
    refine wpIn_seq ?_
    refine region_go 6 ((18, .s ((fQX xa.n xa.n' xa.k xa.d).toSF)) :: (19, .s ((fQX xb.n xb.n' xb.k xb.d).toSF)) :: (20, .s ((fTup2 (fQN ((btw xa.q xb.q S))) (UF.eq (.bool true))).toSF)) :: (17, .s ((fTup2 (fQN ((btw xa.q xb.q S))) (UF.eq (.bool true))).toSF)) :: (21, .u (fQN ((btw xa.q xb.q S)))) :: (22, .u (UF.eq (.bool true))) :: []) hmix s (by kernel_rfl)
      (obs_cons (ok_ldW (f := fQX xa.n xa.n' xa.k xa.d) 3 (by kernel_rfl) (hz := qx_len _ _ _ _)) <| obs_cons (ok_ldW (f := fQX xb.n xb.n' xb.k xb.d) 3 (by kernel_rfl) (hz := qx_len _ _ _ _)) <| obs_cons (ok_call2 wide_wide en_7 (fun u0 u1 W hb (h0 : QXp xa.n xa.n' xa.k xa.d u0 W) (h1 : QXp xb.n xb.n' xb.k xb.d u1 W) => rbetween_lt (rv_x (m := 40) h0 (by omega) (by omega)) (rv_x (m := 40) h1 (by omega) (by omega)) (by omega) (by omega) (hT.below (s.up hb)) S hS (by omega))) <| obs_cons (ok_move) <| obs_cons (ok_ext20 (A := (fQN ((btw xa.q xb.q S))).toSF) (B := (UF.eq (.bool true)).toSF) (fun _ _ h => h)) <| obs_cons (ok_ext21 (A := (fQN ((btw xa.q xb.q S))).toSF) (B := (UF.eq (.bool true)).toSF) (fun _ _ h => h)) <| obs_nil) fun a w4 s => ?_
    refine t_alloc (CU.len 3) (cs := [.bool false, .slice none 0 0, .slice none 0 0]) (by kernel_rfl) rfl s (by kernel_rfl) (fun W => rfl) rfl fun b5 a w s => ?_
    refine t_store (CU.agg (fQN ((btw xa.q xb.q S)))) ((fQN ((btw xa.q xb.q S))).toSF) rfl s (by kernel_rfl) rfl rfl rfl (fun _ _ h => h) (fun _ _ h => h) (qn_store) fun a w s => ?_
    refine t_set (UF.eq (.bool true)) rfl s (by kernel_rfl) (fun _ _ h => h) fun a w s => ?_
    refine tail_end rfl ?_
    refine wpIn_seq ?_
    refine wpIn_seq ?_
    refine region_go 4 ((23, .s ((fQX xa.n xa.n' xa.k xa.d).toSF)) :: (24, .s ((fQX xb.n xb.n' xb.k xb.d).toSF)) :: (25, .s ((UF.eq (.int .i64 ((qsg xa.q xb.q)))).toSF)) :: (26, .u (UF.eq (.bool false))) :: []) hmix s (by kernel_rfl)
      (obs_cons (ok_ldW (f := fQX xa.n xa.n' xa.k xa.d) 3 (by kernel_rfl) (hz := qx_len _ _ _ _)) <| obs_cons (ok_ldW (f := fQX xb.n xb.n' xb.k xb.d) 3 (by kernel_rfl) (hz := qx_len _ _ _ _)) <| obs_cons (ok_call2 wide_wide en_8 (fun u0 u1 W hb (h0 : QXp xa.n xa.n' xa.k xa.d u0 W) (h1 : QXp xb.n xb.n' xb.k xb.d u1 W) => r7cmp_q (rv_x (m := 40) h0 (by omega) (by omega)) (rv_x (m := 40) h1 (by omega) (by omega)) (by omega) (by omega))) <| obs_cons (ok_cmpI .i64 ((qsg xa.q xb.q)) (0) false (fun _ _ h => h) (fun _ _ h => h) (by exact qsg_nge hc) rfl) <| obs_nil) fun a w5 s => ?_
    refine tail_end rfl ?_
    refine StS.cond s false (fun _ _ h => h) (fun e => by cases e) (fun e => ?_)
    refine wpIn_skip ?_
    refine wpIn_seq ?_
    refine wpIn_seq ?_
    refine region_go 14 ((37, .s ((UF.eq (.bool true)).toSF)) :: (38, .s ((UF.eq (.bool false)).toSF)) :: (39, .s ((UF.eq (.bool false)).toSF)) :: (40, .s ((fQX xa.n xa.n' xa.k xa.d).toSF)) :: (41, .s ((fQN ((btw xa.q xb.q S))).toSF)) :: (42, .s ((UF.eq (.int .i64 ((qsg xa.q (btw xa.q xb.q S))))).toSF)) :: (43, .s ((UF.eq (.bool false)).toSF)) :: (44, .s ((UF.eq (.bool false)).toSF)) :: (45, .s ((UF.eq (.bool false)).toSF)) :: (46, .s ((fQN ((btw xa.q xb.q S))).toSF)) :: (47, .s ((fQX xb.n xb.n' xb.k xb.d).toSF)) :: (48, .s ((UF.eq (.int .i64 ((qsg (btw xa.q xb.q S) xb.q)))).toSF)) :: (49, .s ((UF.eq (.bool false)).toSF)) :: (50, .u (UF.eq (.bool false))) :: []) hmix s (by kernel_rfl)
      (obs_cons (ok_move) <| obs_cons (ok_not (true) (fun _ _ h => h) (fun _ => rfl)) <| obs_cons (ok_move) <| obs_cons (ok_guard 39 false (by kernel_rfl) (fun _ _ h => h) (fun _ => ok_ldW (f := fQX xa.n xa.n' xa.k xa.d) 3 (by kernel_rfl) (hz := qx_len _ _ _ _)) (fun e => absurd rfl e)) <| obs_cons (ok_guard 39 false (by kernel_rfl) (fun _ _ h => h) (fun _ => ok_ldW (f := fQN ((btw xa.q xb.q S))) 3 (by kernel_rfl) (hz := qn_len _)) (fun e => absurd rfl e)) <| obs_cons (ok_guard 39 false (by kernel_rfl) (fun _ _ h => h) (fun _ => ok_call2 wide_wide en_8 (fun u0 u1 W hb (h0 : QXp xa.n xa.n' xa.k xa.d u0 W) (h1 : QNp ((btw xa.q xb.q S)) u1 W) => r7cmp_q (rv_x (m := 135) h0 (by omega) (by omega)) (QNp.rv h1 hqr) (by omega) (by omega))) (fun e => absurd rfl e)) <| obs_cons (ok_guard 39 false (by kernel_rfl) (fun _ _ h => h) (fun _ => ok_cmpI .i64 ((qsg xa.q (btw xa.q xb.q S))) (0) false (fun _ _ h => h) (fun _ _ h => h) (by exact qsg_nge hlt.1) rfl) (fun e => absurd rfl e)) <| obs_cons (ok_pick false (fun _ _ h => h) (fun e => by cases e) (fun _ _ _ h => h)) <| obs_cons (ok_move) <| obs_cons (ok_guard 45 false (by kernel_rfl) (fun _ _ h => h) (fun _ => ok_ldW (f := fQN ((btw xa.q xb.q S))) 3 (by kernel_rfl) (hz := qn_len _)) (fun e => absurd rfl e)) <| obs_cons (ok_guard 45 false (by kernel_rfl) (fun _ _ h => h) (fun _ => ok_ldW (f := fQX xb.n xb.n' xb.k xb.d) 3 (by kernel_rfl) (hz := qx_len _ _ _ _)) (fun e => absurd rfl e)) <| obs_cons (ok_guard 45 false (by kernel_rfl) (fun _ _ h => h) (fun _ => ok_call2 wide_wide en_8 (fun u0 u1 W hb (h0 : QNp ((btw xa.q xb.q S)) u0 W) (h1 : QXp xb.n xb.n' xb.k xb.d u1 W) => r7cmp_q (QNp.rv h0 hqr) (rv_x (m := 135) h1 (by omega) (by omega)) (by omega) (by omega))) (fun e => absurd rfl e)) <| obs_cons (ok_guard 45 false (by kernel_rfl) (fun _ _ h => h) (fun _ => ok_cmpI .i64 ((qsg (btw xa.q xb.q S) xb.q)) (0) false (fun _ _ h => h) (fun _ _ h => h) (by exact qsg_nge hlt.2) rfl) (fun e => absurd rfl e)) <| obs_cons (ok_pick false (fun _ _ h => h) (fun e => by cases e) (fun _ _ _ h => h)) <| obs_nil) fun a w6 s => ?_
    refine tail_end rfl ?_
    refine StS.cond s false (fun _ _ h => h) (fun e => by cases e) (fun e => ?_)
    refine wpIn_skip ?_
    refine wpIn_seq ?_
    refine region_go 4 ((51, .s (SF.ptr ((CU.agg (fQN ((btw xa.q xb.q S)))).cf.at 2))) :: (52, .s ((fNat (((btw xa.q xb.q S)).den)).toSF)) :: (53, .s ((fI ((S + 1 : Nat) : Int)).toSF)) :: (7, .u (fI ((S + 1 : Nat) : Int))) :: []) hmix s (by kernel_rfl)
      (obs_cons (ok_fld (C := (CU.agg (fQN ((btw xa.q xb.q S)))).cf) 2 (by kernel_rfl)) <| obs_cons (ok_ld (C := (CU.agg (fQN ((btw xa.q xb.q S)))).cf) (k := 2) (by kernel_rfl) (h := qn_den)) <| obs_cons (ok_call1 wide_wide en_11 (fun u0 W hb (h0 : NatV W u0 (((btw xa.q xb.q S)).den)) => rbits_v (m := 135) (by have h9 := NatV.lv h0 hqr.2; rwa [btw_den hS] at h9) (by omega) (by omega))) <| obs_cons (ok_assign) <| obs_nil) fun a w7 s => ?_
    refine tail_end rfl ?_
    refine wpIn_seq ?_
    refine wpIn_seq ?_
    refine region_go 12 ((54, .s ((fI ((S + 1 : Nat) : Int)).toSF)) :: (55, .s ((UF.eq (.bool false)).toSF)) :: (56, .s ((UF.eq (.bool false)).toSF)) :: (57, .s (SF.ptr ((CU.agg (fQN ((btw xa.q xb.q S)))).cf.at 2))) :: (58, .s ((fNat (((btw xa.q xb.q S)).den)).toSF)) :: (59, .s ((fNat (1)).toSF)) :: (60, .s ((fI ((S + 1 : Nat) : Int)).toSF)) :: (61, .s ((fI ((S : Nat) : Int)).toSF)) :: (62, .s ((fNat (2 ^ S)).toSF)) :: (63, .s ((UF.eq (.bool true)).toSF)) :: (64, .s ((UF.eq (.bool false)).toSF)) :: (65, .u (UF.eq (.bool false))) :: []) hmix s (by kernel_rfl)
      (obs_cons (ok_move) <| obs_cons (ok_cmpI .i64 (((S + 1 : Nat) : Int)) (1) false (fun _ _ h => h) (fun _ _ h => h) (by exact (decide_eq_false (by omega))) rfl) <| obs_cons (ok_move) <| obs_cons (ok_guard 56 false (by kernel_rfl) (fun _ _ h => h) (fun _ => ok_fld (C := (CU.agg (fQN ((btw xa.q xb.q S)))).cf) 2 (by kernel_rfl)) (fun e => absurd rfl e)) <| obs_cons (ok_guard 56 false (by kernel_rfl) (fun _ _ h => h) (fun _ => ok_ld (C := (CU.agg (fQN ((btw xa.q xb.q S)))).cf) (k := 2) (by kernel_rfl) (h := qn_den)) (fun e => absurd rfl e)) <| obs_cons (ok_guard 56 false (by kernel_rfl) (fun _ _ h => h) (fun _ => ok_slice1 (fun u W (hu : u = .int .u32 1) => sl_one hu)) (fun e => absurd rfl e)) <| obs_cons (ok_guard 56 false (by kernel_rfl) (fun _ _ h => h) (fun _ => ok_move) (fun e => absurd rfl e)) <| obs_cons (ok_guard 56 false (by kernel_rfl) (fun _ _ h => h) (fun _ => ok_subI .i64 (((S + 1 : Nat) : Int)) (1) (((S : Nat)) : Int) (fun _ _ h => h) (fun _ _ h => h) (wrap64 _ _ (by omega) (by omega))) (fun e => absurd rfl e)) <| obs_cons (ok_guard 56 false (by kernel_rfl) (fun _ _ h => h) (fun _ => ok_call2 wide_wide en_13 (fun u0 u1 W hb (h0 : NatV W u0 (1)) (h1 : u1 = .int .i64 ((S : Nat) : Int)) => hup W u0 u1 _ h0 h1 (by omega))) (fun e => absurd rfl e)) <| obs_cons (ok_guard 56 false (by kernel_rfl) (fun _ _ h => h) (fun _ => ok_call2 wide_wide en_12 (fun u0 u1 W hb (h0 : NatV W u0 (((btw xa.q xb.q S)).den)) (h1 : NatV W u1 (2 ^ S)) => r1same_t (x := 2 ^ S) (by have h9 := h0; rwa [btw_den hS] at h9) h1)) (fun e => absurd rfl e)) <| obs_cons (ok_guard 56 false (by kernel_rfl) (fun _ _ h => h) (fun _ => ok_not (true) (fun _ _ h => h) (fun _ => rfl)) (fun e => absurd rfl e)) <| obs_cons (ok_pick false (fun _ _ h => h) (fun e => by cases e) (fun _ _ _ h => h)) <| obs_nil) fun a w8 s => ?_
    refine tail_end rfl ?_
    refine StS.cond s false (fun _ _ h => h) (fun e => by cases e) (fun e => ?_)
    refine wpIn_skip ?_
    refine wpIn_seq ?_
    have so := s.old; have sg := s.gr
    refine region_goA2 (fun i => [].contains i) [⟨4, 8, 27, [.bool false, .slice none 0 0, .slice none 0 0], SF.newBox w8 27 (CU.len 3)⟩] 5 ((66, .s ((fNV ((1 : Int))).toSF)) :: (67, .s (SF.ptr ((CU.agg (fQN ((btw xa.q xb.q S)))).cf.at 2))) :: (68, .s ((fNat (((btw xa.q xb.q S)).den)).toSF)) :: (69, .u (fRV (135) ((mkRat 1 (2 ^ S))))) :: (8, .s (SF.newBox w8 27 (CU.len 3))) :: []) hmix s (List.forall_mem_cons.2 ⟨⟨by show 4 < 5; decide, .tail _ (.tail _ (.tail _ (.tail _ (.head _)))), ⟨_, _, _, rfl⟩, by kernel_rfl, own_new (fun _ => rfl) rfl⟩, List.forall_mem_nil _⟩) (by kernel_rfl)
      (obs_cons (ok_call1 wide_wide en_14 (fun u0 W hb (h0 : u0 = .int .i64 (1)) => r5of_w 1 h0 (by decide))) <| obs_cons (ok_fld (C := (CU.agg (fQN ((btw xa.q xb.q S)))).cf) 2 (by kernel_rfl)) <| obs_cons (ok_ld (C := (CU.agg (fQN ((btw xa.q xb.q S)))).cf) (k := 2) (by kernel_rfl) (h := qn_den)) <| obs_cons (ok_build2 (fun u v W (hu : NV W u ((1 : Int))) (hv : NatV W v (((btw xa.q xb.q S)).den)) => by have h9 := b_one hqr.2 (by omega) hu hv; rwa [btw_den hS] at h9)) <| obs_cons (ok_alloc (cs := [.bool false, .slice none 0 0, .slice none 0 0]) (by kernel_rfl) (own_new (fun _ => rfl) rfl)) <| obs_nil) fun Q' hQ a w9 s hr hd => ?_
    obtain ⟨b8, _, e8, s⟩ := s.adoptA false 8 (hr (_, _) (.tail _ (.tail _ (.tail _ (.tail _ (.head _)))))) sg (fun y hy => .inl (so y hy))
    refine t_store (CU.agg (fRV (135) ((mkRat 1 (2 ^ S))))) ((fRV (135) ((mkRat 1 (2 ^ S)))).toSF) rfl s (by kernel_rfl) rfl rfl rfl (fun _ _ h => h) (fun _ _ h => h) (rv_store) fun a w s => ?_
    refine tail_end rfl (hQ _ _ ?_)
    refine wpIn_seq ?_
    refine region_go 3 ((70, .s ((fQN ((btw xa.q xb.q S))).toSF)) :: (71, .s ((fRV (135) ((mkRat 1 (2 ^ S)))).toSF)) :: (72, .u (fQN (((btw xa.q xb.q S) - (mkRat 1 (2 ^ S)))))) :: []) hmix s (by kernel_rfl)
      (obs_cons (ok_ldW (f := fQN ((btw xa.q xb.q S))) 3 (by kernel_rfl) (hz := qn_len _)) <| obs_cons (ok_ldW (f := fRV (135) ((mkRat 1 (2 ^ S)))) 3 (by kernel_rfl) (hz := rv_len _ _)) <| obs_cons (ok_call2 wide_wide en_15 (fun u0 u1 W hb (h0 : QNp ((btw xa.q xb.q S)) u0 W) (h1 : RVp (135) ((mkRat 1 (2 ^ S))) u1 W) => r7sub_q (QNp.rv h0 hqr) h1 (by omega) (by omega))) <| obs_nil) fun a w10 s => ?_
    refine t_alloc (CU.len 3) (cs := [.bool false, .slice none 0 0, .slice none 0 0]) (by kernel_rfl) rfl s (by kernel_rfl) (fun W => rfl) rfl fun b9 a w s => ?_
    refine t_store (CU.agg (fQN (((btw xa.q xb.q S) - (mkRat 1 (2 ^ S)))))) ((fQN (((btw xa.q xb.q S) - (mkRat 1 (2 ^ S))))).toSF) rfl s (by kernel_rfl) rfl rfl rfl (fun _ _ h => h) (fun _ _ h => h) (qn_store) fun a w s => ?_
    refine tail_end rfl ?_
    refine cut2 (fun a w => StS noS W [(7, .u (fI ((S + 1 : Nat) : Int)))] [⟨5, 27, CU.agg (fQN ((btw xa.q xb.q S))), b5, false⟩, ⟨3, 27, QX.cu xb, b3, false⟩, ⟨2, 27, QX.cu xa, b2, false⟩] Tryz.f3.ntmps [] a w) (fun a w s => ?_) (fun tail => ?_)
    · refine wpIn_seq ?_
      refine wpIn_seq ?_
      refine region_go 2 ((95, .s ((fI ((S + 1 : Nat) : Int)).toSF)) :: (96, .u (UF.eq (.bool (decide (S = 0))))) :: []) hmix s (by kernel_rfl)
        (obs_cons (ok_move) <| obs_cons (ok_cmpI .i64 (((S + 1 : Nat) : Int)) (1) (decide (S = 0)) (fun _ _ h => h) (fun _ _ h => h) (by exact eq_one S) rfl) <| obs_nil) fun a w11 s => ?_
      refine tail_end rfl ?_
      refine StS.cond s (decide (S = 0)) (fun _ _ h => h) (fun e => ?_) (fun e => ?_)
      · refine wpIn_seq ?_
        refine region_go 2 ((97, .s ((UF.eq (.bool true)).toSF)) :: (4, .u (UF.eq (.bool true))) :: []) hmix s (by kernel_rfl)
          (obs_cons (ok_call0 wide_wide en_6 (fun W hb => l7wakes_t (hT.below (s.up hb)))) <| obs_cons (ok_assign) <| obs_nil) fun a w12 s => ?_
        refine tail_end rfl ?_
        refine wpIn_ret ?_
        exact StS.res1 s (t := 4) rfl (fun _ _ h => h)
      · have e0 : S ≠ 0 := of_decide_eq_false e
        have hqh : QB ((((2 ^ (S - 1) : Nat) : Int)) : Rat) 85 := QB.int (half_bd (m := 85) (by omega)) (by omega)
        have hql : QB (((fl (xa.q * ((((2 ^ (S - 1) : Nat) : Int)) : Rat)) : Int)) : Rat) 170 := qb_fl7 ((QB.mulL 170 hqxa hqh (by omega)))
        refine wpIn_skip ?_
        refine wpIn_seq ?_
        refine region_go 7 ((98, .s ((fNat (1)).toSF)) :: (99, .s ((fI ((S + 1 : Nat) : Int)).toSF)) :: (100, .s ((fI ((S - 1 : Nat) : Int)).toSF)) :: (101, .s ((fNat (2 ^ (S - 1))).toSF)) :: (102, .s ((fNV ((((2 ^ (S - 1) : Nat)) : Int))).toSF)) :: (103, .s ((fNat (1)).toSF)) :: (104, .u (fQN (((((2 ^ (S - 1) : Nat) : Int)) : Rat)))) :: []) hmix s (by kernel_rfl)
          (obs_cons (ok_slice1 (fun u W (hu : u = .int .u32 1) => sl_one hu)) <| obs_cons (ok_move) <| obs_cons (ok_subI .i64 (((S + 1 : Nat) : Int)) (2) (((S - 1 : Nat)) : Int) (fun _ _ h => h) (fun _ _ h => h) (wrap64 _ _ (by omega) (by omega))) <| obs_cons (ok_call2 wide_wide en_13 (fun u0 u1 W hb (h0 : NatV W u0 (1)) (h1 : u1 = .int .i64 ((S - 1 : Nat) : Int)) => hup W u0 u1 _ h0 h1 (by omega))) <| obs_cons (ok_build1 (fun u W (hu : NatV W u (2 ^ (S - 1))) => b_whole hu)) <| obs_cons (ok_slice1 (fun u W (hu : u = .int .u32 1) => sl_one hu)) <| obs_cons (ok_build2 (fun u v W (hu : NV W u (((2 ^ (S - 1) : Nat)) : Int)) (hv : NatV W v 1) => b_ratN (q := ((((2 ^ (S - 1) : Nat) : Int)) : Rat)) hu hv)) <| obs_nil) fun a w13 s => ?_
        refine t_alloc (CU.len 3) (cs := [.bool false, .slice none 0 0, .slice none 0 0]) (by kernel_rfl) rfl s (by kernel_rfl) (fun W => rfl) rfl fun b10 a w s => ?_
        refine t_store (CU.agg (fQN (((((2 ^ (S - 1) : Nat) : Int)) : Rat)))) ((fQN (((((2 ^ (S - 1) : Nat) : Int)) : Rat))).toSF) rfl s (by kernel_rfl) rfl rfl rfl (fun _ _ h => h) (fun _ _ h => h) (qn_store) fun a w s => ?_
        refine tail_end rfl ?_
        refine wpIn_seq ?_
        refine region_go 7 ((105, .s ((fQX xa.n xa.n' xa.k xa.d).toSF)) :: (106, .s ((fQN (((((2 ^ (S - 1) : Nat) : Int)) : Rat))).toSF)) :: (107, .s (SF.row 3 (rvs 85 [xa.q, ((((2 ^ (S - 1) : Nat) : Int)) : Rat)]))) :: (108, .s ((fQN ((xa.q * ((((2 ^ (S - 1) : Nat) : Int)) : Rat)))).toSF)) :: (109, .s ((fNV ((fl (xa.q * ((((2 ^ (S - 1) : Nat) : Int)) : Rat))))).toSF)) :: (110, .s ((fNat (1)).toSF)) :: (111, .u (fQN ((((fl (xa.q * ((((2 ^ (S - 1) : Nat) : Int)) : Rat)) : Int)) : Rat)))) :: []) hmix s (by kernel_rfl)
          (obs_cons (ok_ldW (f := fQX xa.n xa.n' xa.k xa.d) 3 (by kernel_rfl) (hz := qx_len _ _ _ _)) <| obs_cons (ok_ldW (f := fQN (((((2 ^ (S - 1) : Nat) : Int)) : Rat))) 3 (by kernel_rfl) (hz := qn_len _)) <| obs_cons (ok_slice2 (fun u v W (hu : QXp xa.n xa.n' xa.k xa.d u W) (hv : QNp (((((2 ^ (S - 1) : Nat) : Int)) : Rat)) v W) => sl_rv2 (rv_x (m := 85) hu (by omega) (by omega)) (QNp.rv hv hqh))) <| obs_cons (ok_call1 wide_wide en_19 (fun u0 W hb (h0 : (SF.row 3 (rvs 85 [xa.q, ((((2 ^ (S - 1) : Nat) : Int)) : Rat)])).p u0 W) => r7mul2_q h0 (QB.mono hqxa (m' := 85) (by first | omega | decide)) hqh (by omega))) <| obs_cons (ok_call1 wide_wide en_18 (fun u0 W hb (h0 : QNp ((xa.q * ((((2 ^ (S - 1) : Nat) : Int)) : Rat))) u0 W) => r7floor_q (QNp.rv h0 (QB.mulL 170 hqxa hqh (by omega))) (by omega) (by omega))) <| obs_cons (ok_slice1 (fun u W (hu : u = .int .u32 1) => sl_one hu)) <| obs_cons (ok_build2 (fun u v W (hu : NV W u (fl (xa.q * ((((2 ^ (S - 1) : Nat) : Int)) : Rat)))) (hv : NatV W v 1) => b_ratN (q := (((fl (xa.q * ((((2 ^ (S - 1) : Nat) : Int)) : Rat)) : Int)) : Rat)) hu hv)) <| obs_nil) fun a w14 s => ?_
        refine t_alloc (CU.len 3) (cs := [.bool false, .slice none 0 0, .slice none 0 0]) (by kernel_rfl) rfl s (by kernel_rfl) (fun W => rfl) rfl fun b11 a w s => ?_
        refine t_store (CU.agg (fQN ((((fl (xa.q * ((((2 ^ (S - 1) : Nat) : Int)) : Rat)) : Int)) : Rat)))) ((fQN ((((fl (xa.q * ((((2 ^ (S - 1) : Nat) : Int)) : Rat)) : Int)) : Rat))).toSF) rfl s (by kernel_rfl) rfl rfl rfl (fun _ _ h => h) (fun _ _ h => h) (qn_store) fun a w s => ?_
        refine tail_end rfl ?_
        refine wpIn_seq ?_
        refine region_go 14 ((112, .s ((fQN ((((fl (xa.q * ((((2 ^ (S - 1) : Nat) : Int)) : Rat)) : Int)) : Rat))).toSF)) :: (113, .s ((fQN (((((1) : Int)) : Rat))).toSF)) :: (114, .s (SF.row 3 (rvs 170 [(((fl (xa.q * ((((2 ^ (S - 1) : Nat) : Int)) : Rat)) : Int)) : Rat), ((((1) : Int)) : Rat)]))) :: (115, .s ((fQN (((((fl (xa.q * ((((2 ^ (S - 1) : Nat) : Int)) : Rat)) : Int)) : Rat) + ((((1) : Int)) : Rat)))).toSF)) :: (116, .s ((fQX xb.n xb.n' xb.k xb.d).toSF)) :: (117, .s ((fQN (((((2 ^ (S - 1) : Nat) : Int)) : Rat))).toSF)) :: (118, .s (SF.row 3 (rvs 85 [xb.q, ((((2 ^ (S - 1) : Nat) : Int)) : Rat)]))) :: (119, .s ((fQN ((xb.q * ((((2 ^ (S - 1) : Nat) : Int)) : Rat)))).toSF)) :: (120, .s ((UF.eq (.int .i64 ((qsg ((((fl (xa.q * ((((2 ^ (S - 1) : Nat) : Int)) : Rat)) : Int)) : Rat) + ((((1) : Int)) : Rat)) (xb.q * ((((2 ^ (S - 1) : Nat) : Int)) : Rat)))))).toSF)) :: (121, .s ((UF.eq (.bool true)).toSF)) :: (122, .s ((UF.eq (.bool true)).toSF)) :: (123, .s ((UF.eq (.bool true)).toSF)) :: (124, .s ((UF.eq (.bool true)).toSF)) :: (4, .u (UF.eq (.bool true))) :: []) hmix s (by kernel_rfl)
          (obs_cons (ok_ldW (f := fQN ((((fl (xa.q * ((((2 ^ (S - 1) : Nat) : Int)) : Rat)) : Int)) : Rat))) 3 (by kernel_rfl) (hz := qn_len _)) <| obs_cons (ok_call1 wide_wide en_10 (fun u0 W hb (h0 : u0 = .int .i64 (1)) => r7of_w (1) h0 (by decide))) <| obs_cons (ok_slice2 (fun u v W (hu : QNp ((((fl (xa.q * ((((2 ^ (S - 1) : Nat) : Int)) : Rat)) : Int)) : Rat)) u W) (hv : QNp (((((1) : Int)) : Rat)) v W) => sl_rv2 (QNp.rv hu hql) (QNp.rv hv (QB.mono (QB.int (m := 1) (by unfold Bd BB; decide) (by omega)) (m' := 170) (by first | omega | decide))))) <| obs_cons (ok_call1 wide_wide en_17 (fun u0 W hb (h0 : (SF.row 3 (rvs 170 [(((fl (xa.q * ((((2 ^ (S - 1) : Nat) : Int)) : Rat)) : Int)) : Rat), ((((1) : Int)) : Rat)])).p u0 W) => r7add2_q h0 hql (QB.mono (QB.int (m := 1) (by unfold Bd BB; decide) (by omega)) (m' := 170) (by first | omega | decide)) (by omega))) <| obs_cons (ok_ldW (f := fQX xb.n xb.n' xb.k xb.d) 3 (by kernel_rfl) (hz := qx_len _ _ _ _)) <| obs_cons (ok_ldW (f := fQN (((((2 ^ (S - 1) : Nat) : Int)) : Rat))) 3 (by kernel_rfl) (hz := qn_len _)) <| obs_cons (ok_slice2 (fun u v W (hu : QXp xb.n xb.n' xb.k xb.d u W) (hv : QNp (((((2 ^ (S - 1) : Nat) : Int)) : Rat)) v W) => sl_rv2 (rv_x (m := 85) hu (by omega) (by omega)) (QNp.rv hv hqh))) <| obs_cons (ok_call1 wide_wide en_19 (fun u0 W hb (h0 : (SF.row 3 (rvs 85 [xb.q, ((((2 ^ (S - 1) : Nat) : Int)) : Rat)])).p u0 W) => r7mul2_q h0 (QB.mono hqxb (m' := 85) (by first | omega | decide)) hqh (by omega))) <| obs_cons (ok_call2 wide_wide en_8 (fun u0 u1 W hb (h0 : QNp (((((fl (xa.q * ((((2 ^ (S - 1) : Nat) : Int)) : Rat)) : Int)) : Rat) + ((((1) : Int)) : Rat))) u0 W) (h1 : QNp ((xb.q * ((((2 ^ (S - 1) : Nat) : Int)) : Rat))) u1 W) => r7cmp_q (QNp.rv h0 (QB.addL 341 hql (QB.int (m := 1) (by unfold Bd BB; decide) (by omega)) (by omega))) (QNp.rv h1 (QB.mono (QB.mulL 170 hqxb hqh (by omega)) (m' := 341) (by first | omega | decide))) (by omega) (by omega))) <| obs_cons (ok_cmpI .i64 ((qsg ((((fl (xa.q * ((((2 ^ (S - 1) : Nat) : Int)) : Rat)) : Int)) : Rat) + ((((1) : Int)) : Rat)) (xb.q * ((((2 ^ (S - 1) : Nat) : Int)) : Rat)))) (0) true (fun _ _ h => h) (fun _ _ h => h) (by exact qsg_yge (half_ge hS e0)) rfl) <| obs_cons (ok_move) <| obs_cons (ok_guard 122 true (by kernel_rfl) (fun _ _ h => h) (fun _ => ok_call0 wide_wide en_6 (fun W hb => l7wakes_t (hT.below (s.up hb)))) (fun e => absurd rfl e)) <| obs_cons (ok_pick true (fun _ _ h => h) (fun _ _ _ h => h) (fun e => by cases e)) <| obs_cons (ok_assign) <| obs_nil) fun a w15 s => ?_
        refine tail_end rfl ?_
        refine wpIn_ret ?_
        exact StS.res1 s (t := 4) rfl (fun _ _ h => h)
    · refine wpIn_seq ?_
      refine wpIn_seq ?_
      rcases hr3 with hr | hr | hr
      · refine region_go 3 ((73, .s ((fQN ((btw xa.q xb.q S))).toSF)) :: (74, .s ((UF.eq (.int .i64 (((btw xa.q xb.q S).num.sign)))).toSF)) :: (75, .u (UF.eq (.bool true))) :: []) hmix s (by kernel_rfl)
          (obs_cons (ok_ldW (f := fQN ((btw xa.q xb.q S))) 3 (by kernel_rfl) (hz := qn_len _)) <| obs_cons (ok_call1 wide_wide en_16 (fun u0 W hb (h0 : QNp ((btw xa.q xb.q S)) u0 W) => r7sign_q (QNp.rv h0 hqr) (by omega))) <| obs_cons (ok_cmpI .i64 (((btw xa.q xb.q S).num.sign)) (0) true (fun _ _ h => h) (fun _ _ h => h) (by exact sign_lt _ _ (decide_eq_true hr).symm) rfl) <| obs_nil) fun a w16 s => ?_
        refine tail_end rfl ?_
        refine StS.cond s true (fun _ _ h => h) (fun e => ?_) (fun e => by cases e)
        refine region_go 4 ((76, .s ((fQN ((btw xa.q xb.q S))).toSF)) :: (77, .s ((fRV (135) ((mkRat 1 (2 ^ S)))).toSF)) :: (78, .s (SF.row 3 (rvs 135 [(btw xa.q xb.q S), (mkRat 1 (2 ^ S))]))) :: (79, .u (fQN (((btw xa.q xb.q S) + (mkRat 1 (2 ^ S)))))) :: []) hmix s (by kernel_rfl)
          (obs_cons (ok_ldW (f := fQN ((btw xa.q xb.q S))) 3 (by kernel_rfl) (hz := qn_len _)) <| obs_cons (ok_ldW (f := fRV (135) ((mkRat 1 (2 ^ S)))) 3 (by kernel_rfl) (hz := rv_len _ _)) <| obs_cons (ok_slice2 (fun u v W (hu : QNp ((btw xa.q xb.q S)) u W) (hv : RVp (135) ((mkRat 1 (2 ^ S))) v W) => sl_rv2 (QNp.rv hu hqr) hv)) <| obs_cons (ok_call1 wide_wide en_17 (fun u0 W hb (h0 : (SF.row 3 (rvs 135 [(btw xa.q xb.q S), (mkRat 1 (2 ^ S))])).p u0 W) => r7add2_q h0 hqr hqo (by omega))) <| obs_nil) fun a w17 s => ?_
        refine t_store (CU.agg (fQN (((btw xa.q xb.q S) + (mkRat 1 (2 ^ S)))))) ((fQN (((btw xa.q xb.q S) + (mkRat 1 (2 ^ S))))).toSF) rfl s (by kernel_rfl) rfl rfl rfl (qn_len _) (fun _ _ h => h) (qn_store) fun a w s => ?_
        refine tail_end rfl ?_
        refine wpIn_seq ?_
        refine wpIn_seq ?_
        refine region_go 15 ((80, .s ((fQN ((btw xa.q xb.q S))).toSF)) :: (81, .s ((UF.eq (.int .i64 (((btw xa.q xb.q S).num.sign)))).toSF)) :: (82, .s ((UF.eq (.bool true)).toSF)) :: (83, .s ((UF.eq (.bool true)).toSF)) :: (84, .s ((fQX xa.n xa.n' xa.k xa.d).toSF)) :: (85, .s ((fQN (((btw xa.q xb.q S) + (mkRat 1 (2 ^ S))))).toSF)) :: (86, .s ((UF.eq (.int .i64 ((qsg xa.q ((btw xa.q xb.q S) + (mkRat 1 (2 ^ S))))))).toSF)) :: (87, .s ((UF.eq (.bool true)).toSF)) :: (88, .s ((UF.eq (.bool true)).toSF)) :: (89, .s ((UF.eq (.bool true)).toSF)) :: (90, .s ((fQN (((btw xa.q xb.q S) + (mkRat 1 (2 ^ S))))).toSF)) :: (91, .s ((fQX xb.n xb.n' xb.k xb.d).toSF)) :: (92, .s ((UF.eq (.int .i64 ((qsg ((btw xa.q xb.q S) + (mkRat 1 (2 ^ S))) xb.q)))).toSF)) :: (93, .s ((UF.eq (.bool false)).toSF)) :: (94, .u (UF.eq (.bool false))) :: []) hmix s (by kernel_rfl)
          (obs_cons (ok_ldW (f := fQN ((btw xa.q xb.q S))) 3 (by kernel_rfl) (hz := qn_len _)) <| obs_cons (ok_call1 wide_wide en_16 (fun u0 W hb (h0 : QNp ((btw xa.q xb.q S)) u0 W) => r7sign_q (QNp.rv h0 hqr) (by omega))) <| obs_cons (ok_cmpI .i64 (((btw xa.q xb.q S).num.sign)) (0) true (fun _ _ h => h) (fun _ _ h => h) (by exact sign_nz (by grind)) rfl) <| obs_cons (ok_move) <| obs_cons (ok_guard 83 true (by kernel_rfl) (fun _ _ h => h) (fun _ => ok_ldW (f := fQX xa.n xa.n' xa.k xa.d) 3 (by kernel_rfl) (hz := qx_len _ _ _ _)) (fun e => absurd rfl e)) <| obs_cons (ok_guard 83 true (by kernel_rfl) (fun _ _ h => h) (fun _ => ok_ldW (f := fQN (((btw xa.q xb.q S) + (mkRat 1 (2 ^ S))))) 3 (by kernel_rfl) (hz := qn_len _)) (fun e => absurd rfl e)) <| obs_cons (ok_guard 83 true (by kernel_rfl) (fun _ _ h => h) (fun _ => ok_call2 wide_wide en_8 (fun u0 u1 W hb (h0 : QXp xa.n xa.n' xa.k xa.d u0 W) (h1 : QNp (((btw xa.q xb.q S) + (mkRat 1 (2 ^ S)))) u1 W) => r7cmp_q (rv_x (m := 271) h0 (by omega) (by omega)) (QNp.rv h1 (QB.addL 271 hqr hqo (by omega))) (by omega) (by omega))) (fun e => absurd rfl e)) <| obs_cons (ok_guard 83 true (by kernel_rfl) (fun _ _ h => h) (fun _ => ok_cmpI .i64 ((qsg xa.q ((btw xa.q xb.q S) + (mkRat 1 (2 ^ S))))) (0) true (fun _ _ h => h) (fun _ _ h => h) (by exact qsg_ylt (by have h8 := near_le hS hr; grind)) rfl) (fun e => absurd rfl e)) <| obs_cons (ok_pick true (fun _ _ h => h) (fun _ _ _ h => h) (fun e => by cases e)) <| obs_cons (ok_move) <| obs_cons (ok_guard 89 true (by kernel_rfl) (fun _ _ h => h) (fun _ => ok_ldW (f := fQN (((btw xa.q xb.q S) + (mkRat 1 (2 ^ S))))) 3 (by kernel_rfl) (hz := qn_len _)) (fun e => absurd rfl e)) <| obs_cons (ok_guard 89 true (by kernel_rfl) (fun _ _ h => h) (fun _ => ok_ldW (f := fQX xb.n xb.n' xb.k xb.d) 3 (by kernel_rfl) (hz := qx_len _ _ _ _)) (fun e => absurd rfl e)) <| obs_cons (ok_guard 89 true (by kernel_rfl) (fun _ _ h => h) (fun _ => ok_call2 wide_wide en_8 (fun u0 u1 W hb (h0 : QNp (((btw xa.q xb.q S) + (mkRat 1 (2 ^ S)))) u0 W) (h1 : QXp xb.n xb.n' xb.k xb.d u1 W) => r7cmp_q (QNp.rv h0 (QB.addL 271 hqr hqo (by omega))) (rv_x (m := 271) h1 (by omega) (by omega)) (by omega) (by omega))) (fun e => absurd rfl e)) <| obs_cons (ok_guard 89 true (by kernel_rfl) (fun _ _ h => h) (fun _ => ok_cmpI .i64 ((qsg ((btw xa.q xb.q S) + (mkRat 1 (2 ^ S))) xb.q)) (0) false (fun _ _ h => h) (fun _ _ h => h) (by exact qsg_nlt (near_le hS hr)) rfl) (fun e => absurd rfl e)) <| obs_cons (ok_pick true (fun _ _ h => h) (fun _ _ _ h => h) (fun e => by cases e)) <| obs_nil) fun a w18 s => ?_
        refine tail_end rfl ?_
        refine StS.cond s false (fun _ _ h => h) (fun e => by cases e) (fun e => ?_)
        refine wpIn_skip ?_
        exact tail _ _ ((s.keepK [(7, .u (fI ((S + 1 : Nat) : Int)))] (List.forall_mem_cons.2 ⟨.tail _ (.tail _ (.tail _ (.tail _ (.tail _ (.tail _ (.head _)))))), List.forall_mem_nil _⟩)).popB.popB)
      · refine region_go 3 ((73, .s ((fQN ((btw xa.q xb.q S))).toSF)) :: (74, .s ((UF.eq (.int .i64 (((btw xa.q xb.q S).num.sign)))).toSF)) :: (75, .u (UF.eq (.bool false))) :: []) hmix s (by kernel_rfl)
          (obs_cons (ok_ldW (f := fQN ((btw xa.q xb.q S))) 3 (by kernel_rfl) (hz := qn_len _)) <| obs_cons (ok_call1 wide_wide en_16 (fun u0 W hb (h0 : QNp ((btw xa.q xb.q S)) u0 W) => r7sign_q (QNp.rv h0 hqr) (by omega))) <| obs_cons (ok_cmpI .i64 (((btw xa.q xb.q S).num.sign)) (0) false (fun _ _ h => h) (fun _ _ h => h) (by exact sign_lt _ _ (decide_eq_false (by grind)).symm) rfl) <| obs_nil) fun a w19 s => ?_
        refine tail_end rfl ?_
        refine StS.cond s false (fun _ _ h => h) (fun e => by cases e) (fun e => ?_)
        refine wpIn_skip ?_
        refine wpIn_seq ?_
        refine wpIn_seq ?_
        refine region_go 15 ((80, .s ((fQN ((btw xa.q xb.q S))).toSF)) :: (81, .s ((UF.eq (.int .i64 (((btw xa.q xb.q S).num.sign)))).toSF)) :: (82, .s ((UF.eq (.bool false)).toSF)) :: (83, .s ((UF.eq (.bool false)).toSF)) :: (88, .s ((UF.eq (.bool false)).toSF)) :: (89, .s ((UF.eq (.bool false)).toSF)) :: (94, .u (UF.eq (.bool false))) :: []) hmix s (by kernel_rfl)
          (obs_cons (ok_ldW (f := fQN ((btw xa.q xb.q S))) 3 (by kernel_rfl) (hz := qn_len _)) <| obs_cons (ok_call1 wide_wide en_16 (fun u0 W hb (h0 : QNp ((btw xa.q xb.q S)) u0 W) => r7sign_q (QNp.rv h0 hqr) (by omega))) <| obs_cons (ok_cmpI .i64 (((btw xa.q xb.q S).num.sign)) (0) false (fun _ _ h => h) (fun _ _ h => h) (by exact sign_z hr) rfl) <| obs_cons (ok_move) <| obs_cons (ok_guard 83 false (by kernel_rfl) (fun _ _ h => h) (fun e => by cases e) (fun _ _ => trivial)) <| obs_cons (ok_guard 83 false (by kernel_rfl) (fun _ _ h => h) (fun e => by cases e) (fun _ _ => trivial)) <| obs_cons (ok_guard 83 false (by kernel_rfl) (fun _ _ h => h) (fun e => by cases e) (fun _ _ => trivial)) <| obs_cons (ok_guard 83 false (by kernel_rfl) (fun _ _ h => h) (fun e => by cases e) (fun _ _ => trivial)) <| obs_cons (ok_pick false (fun _ _ h => h) (fun e => by cases e) (fun _ _ _ h => h)) <| obs_cons (ok_move) <| obs_cons (ok_guard 89 false (by kernel_rfl) (fun _ _ h => h) (fun e => by cases e) (fun _ _ => trivial)) <| obs_cons (ok_guard 89 false (by kernel_rfl) (fun _ _ h => h) (fun e => by cases e) (fun _ _ => trivial)) <| obs_cons (ok_guard 89 false (by kernel_rfl) (fun _ _ h => h) (fun e => by cases e) (fun _ _ => trivial)) <| obs_cons (ok_guard 89 false (by kernel_rfl) (fun _ _ h => h) (fun e => by cases e) (fun _ _ => trivial)) <| obs_cons (ok_pick false (fun _ _ h => h) (fun e => by cases e) (fun _ _ _ h => h)) <| obs_nil) fun a w20 s => ?_
        refine tail_end rfl ?_
        refine StS.cond s false (fun _ _ h => h) (fun e => by cases e) (fun e => ?_)
        refine wpIn_skip ?_
        exact tail _ _ ((s.keepK [(7, .u (fI ((S + 1 : Nat) : Int)))] (List.forall_mem_cons.2 ⟨.tail _ (.tail _ (.tail _ (.tail _ (.tail _ (.head _))))), List.forall_mem_nil _⟩)).popB.popB)
      · refine region_go 3 ((73, .s ((fQN ((btw xa.q xb.q S))).toSF)) :: (74, .s ((UF.eq (.int .i64 (((btw xa.q xb.q S).num.sign)))).toSF)) :: (75, .u (UF.eq (.bool false))) :: []) hmix s (by kernel_rfl)
          (obs_cons (ok_ldW (f := fQN ((btw xa.q xb.q S))) 3 (by kernel_rfl) (hz := qn_len _)) <| obs_cons (ok_call1 wide_wide en_16 (fun u0 W hb (h0 : QNp ((btw xa.q xb.q S)) u0 W) => r7sign_q (QNp.rv h0 hqr) (by omega))) <| obs_cons (ok_cmpI .i64 (((btw xa.q xb.q S).num.sign)) (0) false (fun _ _ h => h) (fun _ _ h => h) (by exact sign_lt _ _ (decide_eq_false (by grind)).symm) rfl) <| obs_nil) fun a w21 s => ?_
        refine tail_end rfl ?_
        refine StS.cond s false (fun _ _ h => h) (fun e => by cases e) (fun e => ?_)
        refine wpIn_skip ?_
        refine wpIn_seq ?_
        refine wpIn_seq ?_
        refine region_go 15 ((80, .s ((fQN ((btw xa.q xb.q S))).toSF)) :: (81, .s ((UF.eq (.int .i64 (((btw xa.q xb.q S).num.sign)))).toSF)) :: (82, .s ((UF.eq (.bool true)).toSF)) :: (83, .s ((UF.eq (.bool true)).toSF)) :: (84, .s ((fQX xa.n xa.n' xa.k xa.d).toSF)) :: (85, .s ((fQN (((btw xa.q xb.q S) - (mkRat 1 (2 ^ S))))).toSF)) :: (86, .s ((UF.eq (.int .i64 ((qsg xa.q ((btw xa.q xb.q S) - (mkRat 1 (2 ^ S))))))).toSF)) :: (87, .s ((UF.eq (.bool false)).toSF)) :: (88, .s ((UF.eq (.bool false)).toSF)) :: (89, .s ((UF.eq (.bool false)).toSF)) :: (94, .u (UF.eq (.bool false))) :: []) hmix s (by kernel_rfl)
          (obs_cons (ok_ldW (f := fQN ((btw xa.q xb.q S))) 3 (by kernel_rfl) (hz := qn_len _)) <| obs_cons (ok_call1 wide_wide en_16 (fun u0 W hb (h0 : QNp ((btw xa.q xb.q S)) u0 W) => r7sign_q (QNp.rv h0 hqr) (by omega))) <| obs_cons (ok_cmpI .i64 (((btw xa.q xb.q S).num.sign)) (0) true (fun _ _ h => h) (fun _ _ h => h) (by exact sign_nz (by grind)) rfl) <| obs_cons (ok_move) <| obs_cons (ok_guard 83 true (by kernel_rfl) (fun _ _ h => h) (fun _ => ok_ldW (f := fQX xa.n xa.n' xa.k xa.d) 3 (by kernel_rfl) (hz := qx_len _ _ _ _)) (fun e => absurd rfl e)) <| obs_cons (ok_guard 83 true (by kernel_rfl) (fun _ _ h => h) (fun _ => ok_ldW (f := fQN (((btw xa.q xb.q S) - (mkRat 1 (2 ^ S))))) 3 (by kernel_rfl) (hz := qn_len _)) (fun e => absurd rfl e)) <| obs_cons (ok_guard 83 true (by kernel_rfl) (fun _ _ h => h) (fun _ => ok_call2 wide_wide en_8 (fun u0 u1 W hb (h0 : QXp xa.n xa.n' xa.k xa.d u0 W) (h1 : QNp (((btw xa.q xb.q S) - (mkRat 1 (2 ^ S)))) u1 W) => r7cmp_q (rv_x (m := 271) h0 (by omega) (by omega)) (QNp.rv h1 (QB.subL 271 hqr hqo (by omega))) (by omega) (by omega))) (fun e => absurd rfl e)) <| obs_cons (ok_guard 83 true (by kernel_rfl) (fun _ _ h => h) (fun _ => ok_cmpI .i64 ((qsg xa.q ((btw xa.q xb.q S) - (mkRat 1 (2 ^ S))))) (0) false (fun _ _ h => h) (fun _ _ h => h) (by exact qsg_nlt (near_ge hS hr)) rfl) (fun e => absurd rfl e)) <| obs_cons (ok_pick true (fun _ _ h => h) (fun _ _ _ h => h) (fun e => by cases e)) <| obs_cons (ok_move) <| obs_cons (ok_guard 89 false (by kernel_rfl) (fun _ _ h => h) (fun e => by cases e) (fun _ _ => trivial)) <| obs_cons (ok_guard 89 false (by kernel_rfl) (fun _ _ h => h) (fun e => by cases e) (fun _ _ => trivial)) <| obs_cons (ok_guard 89 false (by kernel_rfl) (fun _ _ h => h) (fun e => by cases e) (fun _ _ => trivial)) <| obs_cons (ok_guard 89 false (by kernel_rfl) (fun _ _ h => h) (fun e => by cases e) (fun _ _ => trivial)) <| obs_cons (ok_pick false (fun _ _ h => h) (fun e => by cases e) (fun _ _ _ h => h)) <| obs_nil) fun a w22 s => ?_
        refine tail_end rfl ?_
        refine StS.cond s false (fun _ _ h => h) (fun e => by cases e) (fun e => ?_)
        refine wpIn_skip ?_
        exact tail _ _ ((s.keepK [(7, .u (fI ((S + 1 : Nat) : Int)))] (List.forall_mem_cons.2 ⟨.tail _ (.tail _ (.tail _ (.tail _ (.tail _ (.head _))))), List.forall_mem_nil _⟩)).popB.popB)

theorem ratbetween_t {W : World} {u v : Value} {xa xb : QX} (hxa : QXp xa.n xa.n' xa.k xa.d u W) (hxb : QXp xb.n xb.n' xb.k xb.d v W) (hL : ∀ x, x ∈ [xa, xb] → x.n + x.n' < 9223372036854775808) (hT : Tab W) : Calls Tryz.prog 3 #[u, v] W (Ret W (fB true).toSF) := by
  by_cases hc : xa.q < xb.q
  · exact ratbetween_lt hxa hxb hL hT hc
  · exact ratbetween_ge hxa hxb hL hT (Rat.not_lt.1 hc)
end Go.Proofs.Wd

