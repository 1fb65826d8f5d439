/- Walks of rat: norm, whole, Of, of, add, mul of numbers that are reckoned with; Walks of rat: of; add and mul of numbers that are reckoned with; Walks of rat: Norm, Sign, Cmp, Same, Neg, New, Quo; Walks of rat: all, Add, Mul; Walks of rat: New, Sub, Quo, Mid, Floor; Walks: straitref07's Told and Great, straitlaw07's same and by; Walks: straitref07's Great; Walks: straitlaw07's by, wakes; What the walks of chapter 07's laws share; The walk of RatLaws; The walk of RatNorm. -/
import Derived.Test.YtghgemeclgpibaaDoorMQN20
import Derived.Test.YtghgemeclgpibaaDoorMQN19
import Derived.Test.YtghgemeclgpibaaDoorMQN6
import Derived.Test.YtghgemeclgpibaaDoorMQN18
import Derived.Test.YtghgemeclgpibaaDoorMQN10
import Derived.Test.YtghgemeclgpibaaDoorMQN16
namespace Go.Proofs.Wd
open Go.RowKit Lb

theorem trim_v {W : World} {m : Nat} {v : Value} {x : Nat} (h : LV W m v x) (hm : m ≤ 100000) : Calls Tryd.prog 50 #[v] W (RetN W x) := by
  obtain ⟨A, n, c, l, rfl, h1, h2, h3, rfl⟩ := h
  exact (trim_any A n c l W h1 h2 (by omega)).mono fun _ _ => RetNat.v
/-- The table of math/bits lies in no block that is written. -/
theorem Tab.bls {W w : World} {b : Nat} {cs : List Value} {te : TypeId} (hT : Tab W) (hb : W.heap[b]? = some (.cells cs.toArray te (0, 0))) (h0 : ∃ s, cs[0]? = some (.bool s)) (hg : BlS (fun k => k = b) W w) : Tab w := fun j hj => by
  have h1 := hT j hj
  have hne : (0 : Nat) ≠ b := fun e => by
    have h2 := hT 0 (by decide)
    obtain ⟨s, hs⟩ := h0
    unfold World.cell? at h2
    rw [show ((⟨0, 0, none⟩ : Addr).block) = b from e, hb] at h2
    simp [hs] at h2
  exact (World.cell?_of_block (a := ⟨0, j, none⟩) (hg.block _ (lt_of_cell h1) hne)).trans h1
theorem qv_bool {m : Nat} {k : Int} {d : Nat} {cs : List Value} {W : World} (h : QVp m k d (.agg cs.toArray) W) : ∃ s, cs[0]? = some (.bool s) := by
  obtain ⟨u, h1, s, rfl⟩ := qv_neg cs W h
  exact ⟨s, h1⟩
theorem qv_noLimb {m : Nat} {k : Int} {d : Nat} {cs : List Value} {W : World} (h : QVp m k d (.agg cs.toArray) W) : cs.all noLimb = true := by
  have := (qv_box (v := .agg cs.toArray) h).2
  simpa [Value.cells] using this
set_option maxRecDepth 100000 in
theorem whole_v {W : World} {v : Value} {x : Nat} (h : NatV W v x) : Calls Tryd.prog 69 #[v] W (Ret W (fNV ((x : Int))).toSF) := by
  have hmix : Tryd.prog.follows .mixedOrders = true := by kernel_rfl
  refine run_st [(fNat (x)).toSF] Tryd.func69 rfl (by kernel_rfl) ⟨h, trivial⟩ fun a s => ?_
  refine wpIn_seq ?_
  refine region_go 0 [] hmix s (by kernel_rfl)
    obs_nil fun a w1 s => ?_
  refine t_alloc (CU.len 2) (cs := [.bool false, .slice none 0 0]) (by kernel_rfl) rfl s (by kernel_rfl) (fun W => rfl) rfl fun b2 a w s => ?_
  refine tail_end rfl ?_
  refine wpIn_seq ?_
  refine region_go 2 ((3, .s ((fNat (x)).toSF)) :: (4, .u (fNV ((x : Int)))) :: []) hmix s (by kernel_rfl)
    (obs_cons (ok_move) <|
    obs_cons (ok_build1 (fun u W (hu : NatV W u (x)) => b_whole hu)) <| obs_nil) fun a w2 s => ?_
  refine t_store (CU.agg (fNV ((x : Int)))) ((fNV ((x : Int))).toSF) rfl s (by kernel_rfl) rfl rfl rfl (fun _ _ h => h) (fun _ _ h => h) (nv_store) fun a w s => ?_
  refine tail_end rfl ?_
  refine wpIn_ret ?_
  exact StS.resC s (CU.agg (fNV ((x : Int)))) rfl (by kernel_rfl) rfl rfl (nv_len _) (fun cs W h => h)

set_option maxRecDepth 100000 in
theorem rof_v {W : World} (z : Int) (hz : -9223372036854775808 ≤ z ∧ z ≤ 9223372036854775807) : Calls Tryd.prog 37 #[.int .i64 z] W (Ret W (fQN (z : Rat)).toSF) := by
  have hmix : Tryd.prog.follows .mixedOrders = true := by kernel_rfl
  have en_66 : Enters Tryd.prog 66 := enters_of Tryd.func66 (by kernel_rfl) rfl
  refine run_st [(fI z).toSF] Tryd.func37 rfl (by kernel_rfl) ⟨rfl, trivial⟩ fun a s => ?_
  refine wpIn_seq ?_
  refine region_go 0 [] hmix s (by kernel_rfl)
    obs_nil fun a w1 s => ?_
  refine t_alloc (CU.len 3) (cs := [.bool false, .slice none 0 0, .slice none 0 0]) (by kernel_rfl) rfl s (by kernel_rfl) (fun W => rfl) rfl fun b2 a w s => ?_
  refine tail_end rfl ?_
  refine wpIn_seq ?_
  refine region_go 4 ((3, .s ((UF.eq (.int .i64 (z))).toSF)) :: (4, .s ((fNV (z)).toSF)) :: (5, .s ((fNat (1)).toSF)) :: (6, .u (fQN ((z : Rat)))) :: []) hmix s (by kernel_rfl)
    (obs_cons (ok_move) <|
    obs_cons (ok_call1 wide_wide en_66 (fun u0 W hb (h0 : u0 = .int .i64 (z)) => by subst h0; exact of_v z hz)) <|
    obs_cons (ok_slice1 (fun u W (hu : u = .int .u32 1) => sl_one hu)) <|
    obs_cons (ok_build2 (fun u v W (hu : NV W u z) (hv : NatV W v 1) => b_ratN (q := (z : Rat)) hu hv)) <| obs_nil) fun a w2 s => ?_
  refine t_store (CU.agg (fQN ((z : Rat)))) ((fQN ((z : Rat))).toSF) rfl s (by kernel_rfl) rfl rfl rfl (fun _ _ h => h) (fun _ _ h => h) (qn_store) fun a w s => ?_
  refine tail_end rfl ?_
  refine wpIn_ret ?_
  exact StS.resC s (CU.agg (fQN (z : Rat))) rfl (by kernel_rfl) rfl rfl (qn_len _) (fun cs W h => h)

set_option maxRecDepth 100000 in
theorem rnorm_z {W : World} {b m : Nat} {k : Int} {d : Nat} {cs : List Value} (hh : W.heap[b]? = some (.cells cs.toArray 78 (0, 0))) (hc : QVp m k d (.agg cs.toArray) W) (hm : m ≤ 1000) (hd : d = 0) : Calls Tryd.prog 92 #[.pointer (some ⟨b, 0, none⟩)] W (RetS W b 78 (CU.agg (fQN ((0 : Int) : Rat))) (UF.eq (.bool false)).toSF) := by
  have hmix : Tryd.prog.follows .mixedOrders = true := by kernel_rfl
  have hz : true = decide (d = 0) := (decide_eq_true hd).symm
  have en_50 : Enters Tryd.prog 50 := enters_of Tryd.func50 (by kernel_rfl) rfl
  have en_37 : Enters Tryd.prog 37 := enters_of Tryd.func37 (by kernel_rfl) rfl
  refine run_stS b [(0, UF.eq (.pointer (some ⟨b, 0, none⟩)))] [⟨0, 78, CU.agg (fQV m k d), b, false⟩] Tryd.func92 rfl (by kernel_rfl) (fun q hq => by simp at hq; subst hq; exact ⟨by simp, rfl⟩) ⟨⟨cs, rfl, .inr (.inr rfl), hh, hc, qv_noLimb hc, fun y hy => by cases hy⟩, trivial⟩ (fun x hx => by simp at hx; subst hx; simp) fun a s => ?_
  refine wpIn_seq ?_
  refine region_go 1 ((2, .u (UF.eq (.bool false))) :: []) hmix s (by kernel_rfl)
    (obs_cons (ok_assign) <| obs_nil) fun a w1 s => ?_
  refine tail_end rfl ?_
  refine wpIn_seq ?_
  refine wpIn_seq ?_
  refine region_go 8 ((3, .s (SF.pb b (CU.agg (fQV (m) (k) (d))).cf)) :: (4, .s (SF.ptr (CU.agg (fQV (m) (k) (d))).cf)) :: (5, .s (SF.ptr ((CU.agg (fQV (m) (k) (d))).cf.at 0))) :: (6, .s (SF.ptr ((CU.agg (fQV (m) (k) (d))).cf.at 2))) :: (7, .s ((fLV (m) (d)).toSF)) :: (8, .s ((fNat (d)).toSF)) :: (9, .s (fLen d)) :: (10, .u (UF.eq (.bool true))) :: []) hmix s (by kernel_rfl)
    (obs_cons (ok_move) <|
    obs_cons (ok_nil (C := (CU.agg (fQV (m) (k) (d))).cf)) <|
    obs_cons (ok_fld (C := (CU.agg (fQV (m) (k) (d))).cf) 0 (by kernel_rfl)) <|
    obs_cons (ok_fldn (C := (CU.agg (fQV (m) (k) (d))).cf) 0 2 (by kernel_rfl)) <|
    obs_cons (ok_ld (C := (CU.agg (fQV (m) (k) (d))).cf) (k := 2) (by kernel_rfl) (h := qv_den)) <|
    obs_cons (ok_call1 wide_wide en_50 (fun u0 W hb (h0 : LV W (m) u0 (d)) => trim_v h0 (by omega))) <|
    obs_cons (ok_lenN (by kernel_rfl) (fun _ _ h => h)) <|
    obs_cons (ok_eql0 hz) <| obs_nil) fun a w2 s => ?_
  refine tail_end rfl ?_
  refine StS.cond s true (fun _ _ h => h) (fun e => ?_) (fun e => by cases e)
  refine wpIn_seq ?_
  refine region_go 4 ((11, .s ((UF.eq (.pointer (some ⟨b, 0, none⟩))).toSF)) :: (12, .u (fQN (((0 : Int) : Rat)))) :: (13, .s ((UF.eq (.pointer (some ⟨b, 0, none⟩))).toSF)) :: (14, .u (UF.eq (.pointer (some ⟨b, 0, none⟩)))) :: []) hmix s (by kernel_rfl)
    (obs_cons (ok_move (fun _ _ _ h => h.1)) <|
    obs_cons (ok_call1 wide_wide en_37 (fun u0 W hb (h0 : u0 = .int .i64 (0)) => by subst h0; exact rof_v 0 (by decide))) <|
    obs_cons (ok_nilE (a := ⟨b, 0, none⟩) (fun _ _ h => h)) <|
    obs_cons (ok_fldE (b := b) (o := 0) 0 (by kernel_rfl) (fun _ _ h => h)) <| obs_nil) fun a w3 s => ?_
  refine t_storeP (c := 0) (o := 0) (kk := 3) (CU.agg (fQN (((0 : Int) : Rat)))) ((fQN (((0 : Int) : Rat))).toSF) rfl s (by kernel_rfl) rfl rfl (fun _ _ h => h) (fun _ _ h => h) (sp_whole) fun a w s => ?_
  refine tail_end rfl ?_
  refine wpIn_seq ?_
  replace s := s.drop [2]
  refine region_go 1 ((2, .u (UF.eq (.bool false))) :: []) hmix s (by kernel_rfl)
    (obs_cons (ok_assign) <| obs_nil) fun a w4 s => ?_
  refine tail_end rfl ?_
  refine wpIn_ret ?_
  exact StS.resS1 s (c := 0) (C := CU.agg (fQN (((0 : Int) : Rat)))) rfl rfl rfl rfl (fun _ _ h => h)

set_option maxRecDepth 100000 in
theorem rnorm_p {W : World} {b m : Nat} {k : Int} {d : Nat} {cs : List Value} (hh : W.heap[b]? = some (.cells cs.toArray 78 (0, 0))) (hc : QVp m k d (.agg cs.toArray) W) (hm : m ≤ 1000) (hd0 : 0 < d) (hT : Tab W) : Calls Tryd.prog 92 #[.pointer (some ⟨b, 0, none⟩)] W (RetS W b 78 (CU.agg (fQN (mkRat k d))) (UF.eq (.bool true)).toSF) := by
  have hmix : Tryd.prog.follows .mixedOrders = true := by kernel_rfl
  have hz : false = decide (d = 0) := (decide_eq_false (by omega)).symm
  have bk : k.natAbs < BB ^ m := by obtain ⟨_, _, _, _, h1, _⟩ := hc; exact h1.bound
  have hred : ∀ W u0 u1, Tab W → LV W m u0 k.natAbs → LV W m u1 d → Calls Tryd.prog 12 #[u0, u1] W (Ret W (SF.tup2 (fNat (k.natAbs / Nat.gcd k.natAbs d)).toSF (fNat (d / Nat.gcd k.natAbs d)).toSF)) := fun W u0 u1 hT h0 h1 => (reduce_v h0 h1 hm hT).mono fun e w' ⟨v, v', e1, h1, h2, hb⟩ => ⟨_, e1, ⟨v, v', rfl, h1, h2⟩, hb⟩
  have en_12 : Enters Tryd.prog 12 := enters_of Tryd.func12 (by kernel_rfl) rfl
  have en_50 : Enters Tryd.prog 50 := enters_of Tryd.func50 (by kernel_rfl) rfl
  have en_76 : Enters Tryd.prog 76 := enters_of Tryd.func76 (by kernel_rfl) rfl
  refine run_stS b [(0, UF.eq (.pointer (some ⟨b, 0, none⟩)))] [⟨0, 78, CU.agg (fQV m k d), b, false⟩] Tryd.func92 rfl (by kernel_rfl) (fun q hq => by simp at hq; subst hq; exact ⟨by simp, rfl⟩) ⟨⟨cs, rfl, .inr (.inr rfl), hh, hc, qv_noLimb hc, fun y hy => by cases hy⟩, trivial⟩ (fun x hx => by simp at hx; subst hx; simp) fun a s => ?_
  refine wpIn_seq ?_
  refine region_go 1 ((2, .u (UF.eq (.bool false))) :: []) hmix s (by kernel_rfl)
    (obs_cons (ok_assign) <| obs_nil) fun a w1 s => ?_
  refine tail_end rfl ?_
  refine wpIn_seq ?_
  refine wpIn_seq ?_
  refine region_go 8 ((3, .s (SF.pb b (CU.agg (fQV (m) (k) (d))).cf)) :: (4, .s (SF.ptr (CU.agg (fQV (m) (k) (d))).cf)) :: (5, .s (SF.ptr ((CU.agg (fQV (m) (k) (d))).cf.at 0))) :: (6, .s (SF.ptr ((CU.agg (fQV (m) (k) (d))).cf.at 2))) :: (7, .s ((fLV (m) (d)).toSF)) :: (8, .s ((fNat (d)).toSF)) :: (9, .s (fLen d)) :: (10, .u (UF.eq (.bool false))) :: []) hmix s (by kernel_rfl)
    (obs_cons (ok_move) <|
    obs_cons (ok_nil (C := (CU.agg (fQV (m) (k) (d))).cf)) <|
    obs_cons (ok_fld (C := (CU.agg (fQV (m) (k) (d))).cf) 0 (by kernel_rfl)) <|
    obs_cons (ok_fldn (C := (CU.agg (fQV (m) (k) (d))).cf) 0 2 (by kernel_rfl)) <|
    obs_cons (ok_ld (C := (CU.agg (fQV (m) (k) (d))).cf) (k := 2) (by kernel_rfl) (h := qv_den)) <|
    obs_cons (ok_call1 wide_wide en_50 (fun u0 W hb (h0 : LV W (m) u0 (d)) => trim_v h0 (by omega))) <|
    obs_cons (ok_lenN (by kernel_rfl) (fun _ _ h => h)) <|
    obs_cons (ok_eql0 hz) <| obs_nil) fun a w2 s => ?_
  refine tail_end rfl ?_
  refine StS.cond s false (fun _ _ h => h) (fun e => by cases e) (fun e => ?_)
  refine wpIn_skip ?_
  refine wpIn_seq ?_
  refine region_go 10 ((15, .s ((UF.eq (.pointer (some ⟨b, 0, none⟩))).toSF)) :: (16, .s (SF.pb b (CU.agg (fQV (m) (k) (d))).cf)) :: (17, .s (SF.ptr (CU.agg (fQV (m) (k) (d))).cf)) :: (18, .s (SF.ptr ((CU.agg (fQV (m) (k) (d))).cf.at 0))) :: (19, .s (SF.ptr ((CU.agg (fQV (m) (k) (d))).cf.at 0))) :: (20, .s ((fUV (m) (k)).toSF)) :: (21, .u (fNV (k))) :: (22, .s ((UF.eq (.pointer (some ⟨b, 0, none⟩))).toSF)) :: (23, .s ((UF.eq (.pointer (some ⟨b, 0, none⟩))).toSF)) :: (24, .u (UF.eq (.pointer (some ⟨b, 0, none⟩)))) :: []) hmix s (by kernel_rfl)
    (obs_cons (ok_move (fun _ _ _ h => h.1)) <|
    obs_cons (ok_move) <|
    obs_cons (ok_nil (C := (CU.agg (fQV (m) (k) (d))).cf)) <|
    obs_cons (ok_fld (C := (CU.agg (fQV (m) (k) (d))).cf) 0 (by kernel_rfl)) <|
    obs_cons (ok_fldn (C := (CU.agg (fQV (m) (k) (d))).cf) 0 0 (by kernel_rfl)) <|
    obs_cons (ok_ldA (C := (CU.agg (fQV (m) (k) (d))).cf) (k := 0) 2 (by kernel_rfl) (h := qv_num)) <|
    obs_cons (ok_call1 wide_wide en_76 (fun u0 W hb (h0 : UV W (m) u0 (k)) => norm_v h0 (by omega))) <|
    obs_cons (ok_nilE (a := ⟨b, 0, none⟩) (fun _ _ h => h)) <|
    obs_cons (ok_fldE (b := b) (o := 0) 0 (by kernel_rfl) (fun _ _ h => h)) <|
    obs_cons (ok_fldE (b := b) (o := 0) 0 (by kernel_rfl) (fun _ _ h => h)) <| obs_nil) fun a w3 s => ?_
  refine t_storeP (c := 0) (o := 0) (kk := 2) (CU.agg (fQM m k d)) ((fNV (k)).toSF) rfl s (by kernel_rfl) rfl rfl (fun _ _ h => h) (fun _ _ h => h) (sp_numV) fun a w s => ?_
  refine tail_end rfl ?_
  refine wpIn_seq ?_
  refine region_goP [0, 1, 2, 8] 15 ((26, .u (UF.eq (.pointer (some ⟨b, 0, none⟩)))) :: (27, .u (UF.eq (.pointer (some ⟨b, 0, none⟩)))) :: (28, .s (SF.pb b (CU.agg (fQM m k d)).cf)) :: (29, .s (SF.ptr (CU.agg (fQM m k d)).cf)) :: (30, .s (SF.ptr ((CU.agg (fQM m k d)).cf.at 0))) :: (31, .s (SF.ptr ((CU.agg (fQM m k d)).cf.at 0))) :: (32, .s (SF.ptr ((CU.agg (fQM m k d)).cf.at 1))) :: (33, .s ((fNat (k.natAbs)).toSF)) :: (34, .s (SF.pb b (CU.agg (fQM m k d)).cf)) :: (35, .s (SF.ptr (CU.agg (fQM m k d)).cf)) :: (36, .s (SF.ptr ((CU.agg (fQM m k d)).cf.at 0))) :: (37, .s (SF.ptr ((CU.agg (fQM m k d)).cf.at 2))) :: (38, .s ((fLV (m) (d)).toSF)) :: (39, .s ((fTup2 (fNat (k.natAbs / Nat.gcd k.natAbs d)) (fNat (d / Nat.gcd k.natAbs d))).toSF)) :: (25, .u (fTup2 (fNat (k.natAbs / Nat.gcd k.natAbs d)) (fNat (d / Nat.gcd k.natAbs d)))) :: []) hmix s (by kernel_rfl)
    (obs_cons (ok_move (fun _ _ _ h => h.1)) <|
    obs_cons (ok_move (fun _ _ _ h => h.1)) <|
    obs_cons (ok_move) <|
    obs_cons (ok_nil (C := (CU.agg (fQM m k d)).cf)) <|
    obs_cons (ok_fld (C := (CU.agg (fQM m k d)).cf) 0 (by kernel_rfl)) <|
    obs_cons (ok_fldn (C := (CU.agg (fQM m k d)).cf) 0 0 (by kernel_rfl)) <|
    obs_cons (ok_fldn (C := (CU.agg (fQM m k d)).cf) 0 1 (by kernel_rfl)) <|
    obs_cons (ok_ld (C := (CU.agg (fQM m k d)).cf) (k := 1) (by kernel_rfl) (h := qm_abs)) <|
    obs_cons (ok_move) <|
    obs_cons (ok_nil (C := (CU.agg (fQM m k d)).cf)) <|
    obs_cons (ok_fld (C := (CU.agg (fQM m k d)).cf) 0 (by kernel_rfl)) <|
    obs_cons (ok_fldn (C := (CU.agg (fQM m k d)).cf) 0 2 (by kernel_rfl)) <|
    obs_cons (ok_ld (C := (CU.agg (fQM m k d)).cf) (k := 2) (by kernel_rfl) (h := qm_den)) <|
    obs_cons (ok_call2 wide_wide en_12 (fun u0 u1 W hb (h0 : NatV W u0 (k.natAbs)) (h1 : LV W (m) u1 (d)) => hred W u0 u1 (hT.bls hh (qv_bool hc) (s.gr.trans hb)) (NatV.lv h0 bk) h1)) <|
    obs_cons (ok_move) <| obs_nil) fun Q' hQ a w4 s => ?_
  refine t_gd (fNat (k.natAbs / Nat.gcd k.natAbs d)) rfl s (by kernel_rfl) (ok_ext20 (A := (fNat (k.natAbs / Nat.gcd k.natAbs d)).toSF) (B := (fNat (d / Nat.gcd k.natAbs d)).toSF) (fun _ _ h => h)) (by kernel_rfl) fun a w s => ?_
  refine t_gd (fNat (d / Nat.gcd k.natAbs d)) rfl s (by kernel_rfl) (ok_ext21 (A := (fNat (k.natAbs / Nat.gcd k.natAbs d)).toSF) (B := (fNat (d / Nat.gcd k.natAbs d)).toSF) (fun _ _ h => h)) (by kernel_rfl) fun a w s => ?_
  refine t_gd (UF.eq (.pointer (some ⟨b, 0, none⟩))) rfl s (by kernel_rfl) (ok_nilE (a := ⟨b, 0, none⟩) (fun _ _ h => h)) (by kernel_rfl) fun a w s => ?_
  refine t_gd (UF.eq (.pointer (some ⟨b, 0, none⟩))) rfl s (by kernel_rfl) (ok_fldE (b := b) (o := 0) 0 (by kernel_rfl) (fun _ _ h => h)) (by kernel_rfl) fun a w s => ?_
  refine t_gd (UF.eq (.pointer (some ⟨b, 0, none⟩))) rfl s (by kernel_rfl) (ok_fldE (b := b) (o := 0) 0 (by kernel_rfl) (fun _ _ h => h)) (by kernel_rfl) fun a w s => ?_
  refine t_gd (UF.eq (.pointer (some ⟨b, 1, none⟩))) rfl s (by kernel_rfl) (ok_fldE (b := b) (o := 0) 1 (by kernel_rfl) (fun _ _ h => h)) (by kernel_rfl) fun a w s => ?_
  refine t_storeP (c := 0) (o := 1) (kk := 1) (CU.agg (fQA m (decide (k < 0)) (k.natAbs / Nat.gcd k.natAbs d) d)) ((fNat (k.natAbs / Nat.gcd k.natAbs d)).toSF) rfl s (by kernel_rfl) rfl rfl (fun _ _ h => h) (fun _ _ h => h) (sp_abs) fun a w s => ?_
  refine t_gd (UF.eq (.pointer (some ⟨b, 0, none⟩))) rfl s (by kernel_rfl) (ok_nilE (a := ⟨b, 0, none⟩) (fun _ _ h => h)) (by kernel_rfl) fun a w s => ?_
  refine t_gd (UF.eq (.pointer (some ⟨b, 0, none⟩))) rfl s (by kernel_rfl) (ok_fldE (b := b) (o := 0) 0 (by kernel_rfl) (fun _ _ h => h)) (by kernel_rfl) fun a w s => ?_
  refine t_gd (UF.eq (.pointer (some ⟨b, 2, none⟩))) rfl s (by kernel_rfl) (ok_fldE (b := b) (o := 0) 2 (by kernel_rfl) (fun _ _ h => h)) (by kernel_rfl) fun a w s => ?_
  refine t_storeP (c := 0) (o := 2) (kk := 1) (CU.agg (fQN (mkRat k d))) ((fNat (d / Nat.gcd k.natAbs d)).toSF) rfl s (by kernel_rfl) rfl rfl (fun _ _ h => h) (fun _ _ h => h) (sp_den (mkRat_neg_iff k d hd0).symm (mkRat_num_abs k d hd0).symm (mkRat_den_eq k d hd0).symm) fun a w s => ?_
  refine tail_end rfl (hQ _ _ ?_)
  refine wpIn_seq ?_
  replace s := s.drop [2]
  refine region_go 1 ((2, .u (UF.eq (.bool true))) :: []) hmix s (by kernel_rfl)
    (obs_cons (ok_assign) <| obs_nil) fun a w5 s => ?_
  refine tail_end rfl ?_
  refine wpIn_ret ?_
  exact StS.resS1 s (c := 0) (C := CU.agg (fQN (mkRat k d))) rfl rfl rfl rfl (fun _ _ h => h)

theorem rnorm_any {W : World} {b m : Nat} {k : Int} {d : Nat} {cs : List Value} (hh : W.heap[b]? = some (.cells cs.toArray 78 (0, 0))) (hc : QVp m k d (.agg cs.toArray) W) (hm : m ≤ 1000) (hT : Tab W) : Calls Tryd.prog 92 #[.pointer (some ⟨b, 0, none⟩)] W (RetS W b 78 (CU.agg (fQN (mkRat k d))) (UF.eq (.bool (decide (0 < d)))).toSF) := by
  rcases Nat.eq_zero_or_pos d with h | h
  · have := rnorm_z hh hc hm h
    rw [h, Rat.mkRat_zero, decide_eq_false (by omega)]
    exact this
  · rw [decide_eq_true h]
    exact rnorm_p hh hc hm h hT

end Go.Proofs.Wd


namespace Go.Proofs.Wd
open Go.RowKit Lb

set_option maxRecDepth 100000 in
theorem rof_r {W : World} {m : Nat} {v : Value} {k : Int} {d : Nat} (h : QVp m k d v W) (hm : m ≤ 1000) (hT : Tab W) : Calls Tryd.prog 65 #[v] W (Ret W (SF.newBox W 78 (CU.agg (fQN (mkRat k d))))) := by
  have hmix : Tryd.prog.follows .mixedOrders = true := by kernel_rfl
  have en_92 : Enters Tryd.prog 92 := enters_of Tryd.func92 (by kernel_rfl) rfl
  refine run_st [(fQV m k d).toSF] Tryd.func65 rfl (by kernel_rfl) ⟨h, trivial⟩ fun a s => ?_
  refine wpIn_seq ?_
  refine region_go 0 [] hmix s (by kernel_rfl)
    obs_nil fun a w1 s => ?_
  refine t_box (CU.agg (fQV (m) (k) (d))) rfl s (by kernel_rfl) (fun v W h => qv_box h) fun b1 a w s => ?_
  refine t_set (UF.eq (.pointer none)) rfl s (by kernel_rfl) (fun _ _ h => h) fun a w s => ?_
  refine tail_end rfl ?_
  refine wpIn_seq ?_
  refine region_go 2 ((4, .s ((fQV (m) (k) (d)).toSF)) :: (5, .u (fQV (m) (k) (d))) :: []) hmix s (by kernel_rfl)
    (obs_cons (ok_ldW (f := fQV (m) (k) (d)) 3 (by kernel_rfl) (hz := qv_len _ _ _)) <|
    obs_cons (ok_build1 (fun u W (hu : QVp m k d u W) => b_numV hu)) <| obs_nil) fun a w2 s => ?_
  refine t_box (CU.agg (fQV (m) (k) (d))) rfl s (by kernel_rfl) (fun v W h => qv_box h) fun b6 a w s => ?_
  refine t_ren rfl s (by kernel_rfl) fun a w s => ?_
  refine tail_end rfl ?_
  refine wpIn_seq ?_
  refine region_go 1 ((7, .u (UF.eq (.pointer (some ⟨b6, 0, none⟩)))) :: []) hmix s (by kernel_rfl)
    (obs_cons (ok_move (fun _ _ _ h => h.1)) <| obs_nil) fun a w3 s => ?_
  refine t_callS1 (c := 3) (CU.agg (fQN (mkRat k d))) (UF.any) rfl wide_wide en_92 s (by kernel_rfl) rfl rfl (fun _ _ h => h) (fun cs h1 h2 => ?_) fun a w s => ?_
  · exact (rnorm_any h1 h2 hm (hT.below s.gr.below)).mono fun e w' ⟨v, g1, _, g2⟩ => ⟨v, g1, trivial, g2⟩
  refine tail_end rfl ?_
  refine wpIn_seq ?_
  replace s := s.drop [2]
  refine region_go 2 ((9, .s (SF.pb b6 (CU.agg (fQN (mkRat k d))).cf)) :: (2, .u (UF.eq (.pointer (some ⟨b6, 0, none⟩)))) :: []) hmix s (by kernel_rfl)
    (obs_cons (ok_move) <|
    obs_cons (ok_assign (fun _ _ _ h => h.1)) <| obs_nil) fun a w4 s => ?_
  refine tail_end rfl ?_
  refine wpIn_ret ?_
  exact StS.resNew s (t := 2) (c := 3) rfl rfl rfl (fun _ _ h => h)

set_option maxRecDepth 100000 in
theorem numadd_r {W : World} {b b' m m' : Nat} {q q' : Rat} {cs cs' : List Value} (hh : W.heap[b]? = some (.cells cs.toArray 78 (0, 0))) (hc : QNp q (.agg cs.toArray) W) (hh' : W.heap[b']? = some (.cells cs'.toArray 78 (0, 0))) (hc' : QNp q' (.agg cs'.toArray) W) (hne : b' ≠ b) (hq : QB q m) (hq' : QB q' m') (hm : m + m' + 1 ≤ 1000) (hT : Tab W) : Calls Tryd.prog 71 #[.pointer (some ⟨b, 0, none⟩), .pointer (some ⟨b', 0, none⟩)] W (RetS W b 78 (CU.agg (fQN (q + q'))) SF.any) := by
  have hmix : Tryd.prog.follows .mixedOrders = true := by kernel_rfl
  have bk : Bd (((q).num * (((q').den : Nat) : Int)) + ((q').num * (((q).den : Nat) : Int))) (m + m' + 1) := hq.num_add hq'
  rw [Rat.add_def']
  have en_92 : Enters Tryd.prog 92 := enters_of Tryd.func92 (by kernel_rfl) rfl
  have en_54 : Enters Tryd.prog 54 := enters_of Tryd.func54 (by kernel_rfl) rfl
  have en_69 : Enters Tryd.prog 69 := enters_of Tryd.func69 (by kernel_rfl) rfl
  have en_99 : Enters Tryd.prog 99 := enters_of Tryd.func99 (by kernel_rfl) rfl
  have en_68 : Enters Tryd.prog 68 := enters_of Tryd.func68 (by kernel_rfl) rfl
  refine run_stS b [(0, UF.eq (.pointer (some ⟨b, 0, none⟩))), (1, UF.eq (.pointer (some ⟨b', 0, none⟩)))] [⟨0, 78, CU.agg (fQN q), b, false⟩, ⟨1, 78, CU.agg (fQN q'), b', true⟩] Tryd.func71 rfl (by kernel_rfl) (fun x hx => by simp at hx; rcases hx with rfl | rfl <;> exact ⟨by simp, rfl⟩) ⟨⟨cs, rfl, .inr (.inr rfl), hh, hc, qv_noLimb (qn_qv hc hq), fun y hy => by simp at hy; subst hy; exact .inl hne⟩, ⟨cs', rfl, .inl rfl, hh', hc', qv_noLimb (qn_qv hc' hq'), fun y hy => by cases hy⟩, trivial⟩ (fun x hx => by simp at hx; rcases hx with rfl | rfl <;> simp) fun a s => ?_
  refine wpIn_seq ?_
  refine region_goP [0, 1, 6, 14, 19] 32 ((4, .s ((UF.eq (.pointer (some ⟨b, 0, none⟩))).toSF)) :: (5, .s (SF.pb b (CU.agg (fQN (q))).cf)) :: (6, .s (SF.ptr (CU.agg (fQN (q))).cf)) :: (7, .s (SF.ptr ((CU.agg (fQN (q))).cf.at 0))) :: (8, .s (SF.ptr ((CU.agg (fQN (q))).cf.at 0))) :: (9, .s ((fNV ((q).num)).toSF)) :: (10, .s (SF.pb b' (CU.agg (fQN (q'))).cf)) :: (11, .s (SF.ptr (CU.agg (fQN (q'))).cf)) :: (12, .s (SF.ptr ((CU.agg (fQN (q'))).cf.at 0))) :: (13, .s (SF.ptr ((CU.agg (fQN (q'))).cf.at 2))) :: (14, .s ((fNat ((q').den)).toSF)) :: (15, .s ((fNV ((((q').den : Nat) : Int))).toSF)) :: (16, .s (fISV ((m + m')) [(q).num, (((q').den : Nat) : Int)])) :: (17, .s ((fNV (((q).num * (((q').den : Nat) : Int)))).toSF)) :: (18, .s (SF.pb b' (CU.agg (fQN (q'))).cf)) :: (19, .s (SF.ptr (CU.agg (fQN (q'))).cf)) :: (20, .s (SF.ptr ((CU.agg (fQN (q'))).cf.at 0))) :: (21, .s (SF.ptr ((CU.agg (fQN (q'))).cf.at 0))) :: (22, .s ((fNV ((q').num)).toSF)) :: (23, .s (SF.pb b (CU.agg (fQN (q))).cf)) :: (24, .s (SF.ptr (CU.agg (fQN (q))).cf)) :: (25, .s (SF.ptr ((CU.agg (fQN (q))).cf.at 0))) :: (26, .s (SF.ptr ((CU.agg (fQN (q))).cf.at 2))) :: (27, .s ((fNat ((q).den)).toSF)) :: (28, .s ((fNV ((((q).den : Nat) : Int))).toSF)) :: (29, .s (fISV ((m + m')) [(q').num, (((q).den : Nat) : Int)])) :: (30, .s ((fNV (((q').num * (((q).den : Nat) : Int)))).toSF)) :: (31, .s (fISV ((m + m')) [((q).num * (((q').den : Nat) : Int)), ((q').num * (((q).den : Nat) : Int))])) :: (32, .u (fNV ((((q).num * (((q').den : Nat) : Int)) + ((q').num * (((q).den : Nat) : Int)))))) :: (33, .s ((UF.eq (.pointer (some ⟨b, 0, none⟩))).toSF)) :: (34, .s ((UF.eq (.pointer (some ⟨b, 0, none⟩))).toSF)) :: (35, .u (UF.eq (.pointer (some ⟨b, 0, none⟩)))) :: []) hmix s (by kernel_rfl)
    (obs_cons (ok_move (fun _ _ _ h => h.1)) <|
    obs_cons (ok_move) <|
    obs_cons (ok_nil (C := (CU.agg (fQN (q))).cf)) <|
    obs_cons (ok_fld (C := (CU.agg (fQN (q))).cf) 0 (by kernel_rfl)) <|
    obs_cons (ok_fldn (C := (CU.agg (fQN (q))).cf) 0 0 (by kernel_rfl)) <|
    obs_cons (ok_ldA (C := (CU.agg (fQN (q))).cf) (k := 0) 2 (by kernel_rfl) (h := qn_num)) <|
    obs_cons (ok_move) <|
    obs_cons (ok_nil (C := (CU.agg (fQN (q'))).cf)) <|
    obs_cons (ok_fld (C := (CU.agg (fQN (q'))).cf) 0 (by kernel_rfl)) <|
    obs_cons (ok_fldn (C := (CU.agg (fQN (q'))).cf) 0 2 (by kernel_rfl)) <|
    obs_cons (ok_ld (C := (CU.agg (fQN (q'))).cf) (k := 2) (by kernel_rfl) (h := qn_den)) <|
    obs_cons (ok_call1 wide_wide en_69 (fun u0 W hb (h0 : NatV W u0 ((q').den)) => whole_v h0)) <|
    obs_cons (ok_slice2 (fun u v W (hu : NV W u ((q).num)) (hv : NV W v ((((q').den : Nat) : Int))) => sl_int2 (NV.uv' hu (Bd.mono (hq).1 (m' := (m + m')) (by first | omega | decide))) (NV.uv' hv (Bd.mono (bd_nat hq'.2) (m' := (m + m')) (by first | omega | decide))))) <|
    obs_cons (ok_call1 wide_wide en_68 (fun u0 W hb (h0 : ISV W ((m + m')) u0 [(q).num, (((q').den : Nat) : Int)]) => mul_w (k := ((q).num * (((q').den : Nat) : Int))) h0 (by show (m + m') * 2 + (m + m') + 1 ≤ 40000; omega) (by simp) (by simp))) <|
    obs_cons (ok_move) <|
    obs_cons (ok_nil (C := (CU.agg (fQN (q'))).cf)) <|
    obs_cons (ok_fld (C := (CU.agg (fQN (q'))).cf) 0 (by kernel_rfl)) <|
    obs_cons (ok_fldn (C := (CU.agg (fQN (q'))).cf) 0 0 (by kernel_rfl)) <|
    obs_cons (ok_ldA (C := (CU.agg (fQN (q'))).cf) (k := 0) 2 (by kernel_rfl) (h := qn_num)) <|
    obs_cons (ok_move) <|
    obs_cons (ok_nil (C := (CU.agg (fQN (q))).cf)) <|
    obs_cons (ok_fld (C := (CU.agg (fQN (q))).cf) 0 (by kernel_rfl)) <|
    obs_cons (ok_fldn (C := (CU.agg (fQN (q))).cf) 0 2 (by kernel_rfl)) <|
    obs_cons (ok_ld (C := (CU.agg (fQN (q))).cf) (k := 2) (by kernel_rfl) (h := qn_den)) <|
    obs_cons (ok_call1 wide_wide en_69 (fun u0 W hb (h0 : NatV W u0 ((q).den)) => whole_v h0)) <|
    obs_cons (ok_slice2 (fun u v W (hu : NV W u ((q').num)) (hv : NV W v ((((q).den : Nat) : Int))) => sl_int2 (NV.uv' hu (Bd.mono (hq').1 (m' := (m + m')) (by first | omega | decide))) (NV.uv' hv (Bd.mono (bd_nat hq.2) (m' := (m + m')) (by first | omega | decide))))) <|
    obs_cons (ok_call1 wide_wide en_68 (fun u0 W hb (h0 : ISV W ((m + m')) u0 [(q').num, (((q).den : Nat) : Int)]) => mul_w (k := ((q').num * (((q).den : Nat) : Int))) h0 (by show (m + m') * 2 + (m + m') + 1 ≤ 40000; omega) (by simp) (by simp))) <|
    obs_cons (ok_slice2 (fun u v W (hu : NV W u (((q).num * (((q').den : Nat) : Int)))) (hv : NV W v (((q').num * (((q).den : Nat) : Int)))) => sl_int2 (NV.uv' hu (Bd.mono (Bd.mul (hq).1 (bd_nat hq'.2)) (by omega))) (NV.uv' hv (Bd.mono (Bd.mul (hq').1 (bd_nat hq.2)) (by omega))))) <|
    obs_cons (ok_call1 wide_wide en_99 (fun u0 W hb (h0 : ISV W ((m + m')) u0 [((q).num * (((q').den : Nat) : Int)), ((q').num * (((q).den : Nat) : Int))]) => add_w (k := (((q).num * (((q').den : Nat) : Int)) + ((q').num * (((q).den : Nat) : Int)))) h0 (by omega) (by simp) (by simp))) <|
    obs_cons (ok_nilE (a := ⟨b, 0, none⟩) (fun _ _ h => h)) <|
    obs_cons (ok_fldE (b := b) (o := 0) 0 (by kernel_rfl) (fun _ _ h => h)) <|
    obs_cons (ok_fldE (b := b) (o := 0) 0 (by kernel_rfl) (fun _ _ h => h)) <| obs_nil) fun Q' hQ a w1 s => ?_
  refine t_storeP (c := 0) (o := 0) (kk := 2) (CU.agg (fQK ((((q).num * (((q').den : Nat) : Int)) + ((q').num * (((q).den : Nat) : Int)))) ((q).den))) ((fNV ((((q).num * (((q').den : Nat) : Int)) + ((q').num * (((q).den : Nat) : Int))))).toSF) rfl s (by kernel_rfl) rfl rfl (fun _ _ h => h) (fun _ _ h => h) (sp_numK (k0 := q.num) (d := q.den)) fun a w s => ?_
  refine tail_end rfl (hQ _ _ ?_)
  refine wpIn_seq ?_
  refine region_goP [0, 1, 6] 15 ((36, .s ((UF.eq (.pointer (some ⟨b, 0, none⟩))).toSF)) :: (37, .s (SF.pb b (CU.agg (fQK ((((q).num * (((q').den : Nat) : Int)) + ((q').num * (((q).den : Nat) : Int)))) ((q).den))).cf)) :: (38, .s (SF.ptr (CU.agg (fQK ((((q).num * (((q').den : Nat) : Int)) + ((q').num * (((q).den : Nat) : Int)))) ((q).den))).cf)) :: (39, .s (SF.ptr ((CU.agg (fQK ((((q).num * (((q').den : Nat) : Int)) + ((q').num * (((q).den : Nat) : Int)))) ((q).den))).cf.at 0))) :: (40, .s (SF.ptr ((CU.agg (fQK ((((q).num * (((q').den : Nat) : Int)) + ((q').num * (((q).den : Nat) : Int)))) ((q).den))).cf.at 2))) :: (41, .s ((fNat ((q).den)).toSF)) :: (42, .s (SF.pb b' (CU.agg (fQN (q'))).cf)) :: (43, .s (SF.ptr (CU.agg (fQN (q'))).cf)) :: (44, .s (SF.ptr ((CU.agg (fQN (q'))).cf.at 0))) :: (45, .s (SF.ptr ((CU.agg (fQN (q'))).cf.at 2))) :: (46, .s ((fNat ((q').den)).toSF)) :: (47, .u (fNat (((q).den) * ((q').den)))) :: (48, .s ((UF.eq (.pointer (some ⟨b, 0, none⟩))).toSF)) :: (49, .s ((UF.eq (.pointer (some ⟨b, 0, none⟩))).toSF)) :: (50, .u (UF.eq (.pointer (some ⟨b, 2, none⟩)))) :: []) hmix s (by kernel_rfl)
    (obs_cons (ok_move (fun _ _ _ h => h.1)) <|
    obs_cons (ok_move) <|
    obs_cons (ok_nil (C := (CU.agg (fQK ((((q).num * (((q').den : Nat) : Int)) + ((q').num * (((q).den : Nat) : Int)))) ((q).den))).cf)) <|
    obs_cons (ok_fld (C := (CU.agg (fQK ((((q).num * (((q').den : Nat) : Int)) + ((q').num * (((q).den : Nat) : Int)))) ((q).den))).cf) 0 (by kernel_rfl)) <|
    obs_cons (ok_fldn (C := (CU.agg (fQK ((((q).num * (((q').den : Nat) : Int)) + ((q').num * (((q).den : Nat) : Int)))) ((q).den))).cf) 0 2 (by kernel_rfl)) <|
    obs_cons (ok_ld (C := (CU.agg (fQK ((((q).num * (((q').den : Nat) : Int)) + ((q').num * (((q).den : Nat) : Int)))) ((q).den))).cf) (k := 2) (by kernel_rfl) (h := qk_den)) <|
    obs_cons (ok_move) <|
    obs_cons (ok_nil (C := (CU.agg (fQN (q'))).cf)) <|
    obs_cons (ok_fld (C := (CU.agg (fQN (q'))).cf) 0 (by kernel_rfl)) <|
    obs_cons (ok_fldn (C := (CU.agg (fQN (q'))).cf) 0 2 (by kernel_rfl)) <|
    obs_cons (ok_ld (C := (CU.agg (fQN (q'))).cf) (k := 2) (by kernel_rfl) (h := qn_den)) <|
    obs_cons (ok_call2 wide_wide en_54 (fun u0 u1 W hb (h0 : NatV W u0 ((q).den)) (h1 : NatV W u1 ((q').den)) => mul_v (LV.mono (NatV.lv h0 hq.2) (m' := (m + m')) (by omega)) (LV.mono (NatV.lv h1 hq'.2) (m' := (m + m')) (by omega)) (by omega))) <|
    obs_cons (ok_nilE (a := ⟨b, 0, none⟩) (fun _ _ h => h)) <|
    obs_cons (ok_fldE (b := b) (o := 0) 0 (by kernel_rfl) (fun _ _ h => h)) <|
    obs_cons (ok_fldE (b := b) (o := 0) 2 (by kernel_rfl) (fun _ _ h => h)) <| obs_nil) fun Q' hQ a w2 s => ?_
  refine t_storeP (c := 0) (o := 2) (kk := 1) (CU.agg (fQK ((((q).num * (((q').den : Nat) : Int)) + ((q').num * (((q).den : Nat) : Int)))) (((q).den) * ((q').den)))) ((fNat (((q).den) * ((q').den))).toSF) rfl s (by kernel_rfl) rfl rfl (fun _ _ h => h) (fun _ _ h => h) (sp_denK) fun a w s => ?_
  refine tail_end rfl (hQ _ _ ?_)
  refine region_go 1 ((51, .u (UF.eq (.pointer (some ⟨b, 0, none⟩)))) :: []) hmix s (by kernel_rfl)
    (obs_cons (ok_move (fun _ _ _ h => h.1)) <| obs_nil) fun a w3 s => ?_
  refine t_callS1 (c := 0) (CU.agg (fQN (mkRat (((q).num * (((q').den : Nat) : Int)) + ((q').num * (((q).den : Nat) : Int))) ((q).den * (q').den)))) (UF.any) rfl wide_wide en_92 s (by kernel_rfl) rfl rfl (fun _ _ h => h) (fun cs h1 h2 => ?_) fun a w s => ?_
  · exact (rnorm_any (m := m + m' + 1) h1 (qk_qv h2 bk (Nat.lt_of_lt_of_le (hq.den_mul hq') (Nat.pow_le_pow_right BB_pos (by omega)))) (by omega) (hT.bls hh (qv_bool (qn_qv hc hq)) s.gr)).mono fun e w' ⟨v, g1, _, g2⟩ => ⟨v, g1, trivial, g2⟩
  refine tail_end rfl ?_
  exact StS.resS0 s (c := 0) (C := CU.agg (fQN (mkRat (((q).num * (((q').den : Nat) : Int)) + ((q').num * (((q).den : Nat) : Int))) ((q).den * (q').den)))) rfl rfl rfl rfl (fun _ => trivial)

end Go.Proofs.Wd


namespace Go.Proofs.Wd
open Go.RowKit Lb

theorem rof_q {W : World} {m : Nat} {v : Value} {q : Rat} (h : RVp m q v W) (hm : m ≤ 1000) (hT : Tab W) : Calls Tryd.prog 65 #[v] W (Ret W (SF.newBox W 78 (CU.agg (fQN q)))) := by
  obtain ⟨k, d, h1, rfl⟩ := h
  exact rof_r h1 hm hT

set_option maxRecDepth 100000 in
theorem rNorm_q {W : World} {m : Nat} {v : Value} {q : Rat} (h : RVp m q v W) (hm : m ≤ 1000) (hm0 : 0 < m) (hT : Tab W) : Calls Tryd.prog 31 #[v] W (Ret W (fQN q).toSF) := by
  have hmix : Tryd.prog.follows .mixedOrders = true := by kernel_rfl
  have hq : QB q m := h.qb hm0
  have en_65 : Enters Tryd.prog 65 := enters_of Tryd.func65 (by kernel_rfl) rfl
  refine run_st [(fRV m q).toSF] Tryd.func31 rfl (by kernel_rfl) ⟨h, trivial⟩ fun a s => ?_
  refine wpIn_seq ?_
  refine region_go 0 [] hmix s (by kernel_rfl)
    obs_nil fun a w1 s => ?_
  refine t_box (CU.agg (fRV (m) (q))) rfl s (by kernel_rfl) (fun v W h => rv_box h) fun b1 a w s => ?_
  refine t_alloc (CU.len 3) (cs := [.bool false, .slice none 0 0, .slice none 0 0]) (by kernel_rfl) rfl s (by kernel_rfl) (fun W => rfl) rfl fun b2 a w s => ?_
  refine tail_end rfl ?_
  refine wpIn_seq ?_
  refine region_go 5 ((3, .s ((fRV (m) (q)).toSF)) :: (4, .s (SF.newBox w 78 (CU.agg (fQN (q))))) :: (5, .s (SF.ptr (CU.agg (fQN (q))).cf)) :: (6, .s (SF.ptr ((CU.agg (fQN (q))).cf.at 0))) :: (7, .u (fQN (q))) :: []) hmix s (by kernel_rfl)
    (obs_cons (ok_ldW (f := fRV (m) (q)) 3 (by kernel_rfl) (hz := rv_len _ _)) <|
    obs_cons (ok_call1 wide_wide en_65 (fun u0 W hb (h0 : RVp (m) (q) u0 W) => (rof_q h0 (by omega) (hT.below (s.up hb))).mono (Ret.to (newBox_old hb.size)))) <|
    obs_cons (ok_nil (C := (CU.agg (fQN (q))).cf) newBox_ptr) <|
    obs_cons (ok_fld (C := (CU.agg (fQN (q))).cf) 0 (by kernel_rfl)) <|
    obs_cons (ok_ldA (C := (CU.agg (fQN (q))).cf) (k := 0) 3 (by kernel_rfl) (h := qn_whole)) <| obs_nil) fun a w2 s => ?_
  refine t_store (CU.agg (fQN (q))) ((fQN (q)).toSF) rfl s (by kernel_rfl) rfl rfl rfl (fun _ _ h => h) (fun _ _ h => h) (qn_store) fun a w s => ?_
  refine tail_end rfl ?_
  refine wpIn_ret ?_
  exact StS.resC s (CU.agg (fQN q)) rfl (by kernel_rfl) rfl rfl (qn_len _) (fun cs W h => h)

set_option maxRecDepth 100000 in
theorem rSign_q {W : World} {m : Nat} {v : Value} {q : Rat} (h : RVp m q v W) (hm : m ≤ 1000) (hm0 : 0 < m) (hT : Tab W) : Calls Tryd.prog 43 #[v] W (Ret W (fI q.num.sign).toSF) := by
  have hmix : Tryd.prog.follows .mixedOrders = true := by kernel_rfl
  have hq : QB q m := h.qb hm0
  have en_65 : Enters Tryd.prog 65 := enters_of Tryd.func65 (by kernel_rfl) rfl
  have en_74 : Enters Tryd.prog 74 := enters_of Tryd.func74 (by kernel_rfl) rfl
  refine run_st [(fRV m q).toSF] Tryd.func43 rfl (by kernel_rfl) ⟨h, trivial⟩ fun a s => ?_
  refine wpIn_seq ?_
  refine region_go 0 [] hmix s (by kernel_rfl)
    obs_nil fun a w1 s => ?_
  refine t_box (CU.agg (fRV (m) (q))) rfl s (by kernel_rfl) (fun v W h => rv_box h) fun b1 a w s => ?_
  refine t_set (UF.eq (.int .i64 (0))) rfl s (by kernel_rfl) (fun _ _ h => h) fun a w s => ?_
  refine tail_end rfl ?_
  refine wpIn_seq ?_
  replace s := s.drop [2]
  refine region_go 8 ((3, .s ((fRV (m) (q)).toSF)) :: (4, .s (SF.newBox w 78 (CU.agg (fQN (q))))) :: (5, .s (SF.ptr (CU.agg (fQN (q))).cf)) :: (6, .s (SF.ptr ((CU.agg (fQN (q))).cf.at 0))) :: (7, .s (SF.ptr ((CU.agg (fQN (q))).cf.at 0))) :: (8, .s ((fNV ((q).num)).toSF)) :: (9, .s ((UF.eq (.int .i64 (q.num.sign))).toSF)) :: (2, .u (UF.eq (.int .i64 (q.num.sign)))) :: []) hmix s (by kernel_rfl)
    (obs_cons (ok_ldW (f := fRV (m) (q)) 3 (by kernel_rfl) (hz := rv_len _ _)) <|
    obs_cons (ok_call1 wide_wide en_65 (fun u0 W hb (h0 : RVp (m) (q) u0 W) => (rof_q h0 (by omega) (hT.below (s.up hb))).mono (Ret.to (newBox_old hb.size)))) <|
    obs_cons (ok_nil (C := (CU.agg (fQN (q))).cf) newBox_ptr) <|
    obs_cons (ok_fld (C := (CU.agg (fQN (q))).cf) 0 (by kernel_rfl)) <|
    obs_cons (ok_fldn (C := (CU.agg (fQN (q))).cf) 0 0 (by kernel_rfl)) <|
    obs_cons (ok_ldA (C := (CU.agg (fQN (q))).cf) (k := 0) 2 (by kernel_rfl) (h := qn_num)) <|
    obs_cons (ok_call1 wide_wide en_74 (fun u0 W hb (h0 : NV W u0 ((q).num)) => calls_eq (sign_v (NV.uv' h0 (hq).1) (by omega)))) <|
    obs_cons (ok_assign) <| obs_nil) fun a w2 s => ?_
  refine tail_end rfl ?_
  refine wpIn_ret ?_
  exact StS.res1 s (t := 2) rfl (fun _ _ h => h)

set_option maxRecDepth 100000 in
theorem rCmp_q {W : World} {m : Nat} {v v' : Value} {q q' : Rat} (h : RVp m q v W) (h' : RVp m q' v' W) (hm : m ≤ 1000) (hm0 : 0 < m) (hT : Tab W) : Calls Tryd.prog 39 #[v, v'] W (Ret W (fI (qsg q q')).toSF) := by
  have hmix : Tryd.prog.follows .mixedOrders = true := by kernel_rfl
  have hq : QB q m := h.qb hm0
  have hq' : QB q' m := h'.qb hm0
  have en_65 : Enters Tryd.prog 65 := enters_of Tryd.func65 (by kernel_rfl) rfl
  have en_69 : Enters Tryd.prog 69 := enters_of Tryd.func69 (by kernel_rfl) rfl
  have en_67 : Enters Tryd.prog 67 := enters_of Tryd.func67 (by kernel_rfl) rfl
  have en_68 : Enters Tryd.prog 68 := enters_of Tryd.func68 (by kernel_rfl) rfl
  refine run_st [(fRV m q).toSF, (fRV m q').toSF] Tryd.func39 rfl (by kernel_rfl) ⟨h, h', trivial⟩ fun a s => ?_
  refine wpIn_seq ?_
  refine region_go 0 [] hmix s (by kernel_rfl)
    obs_nil fun a w1 s => ?_
  refine t_box (CU.agg (fRV (m) (q))) rfl s (by kernel_rfl) (fun v W h => rv_box h) fun b2 a w s => ?_
  refine t_box (CU.agg (fRV (m) (q'))) rfl s (by kernel_rfl) (fun v W h => rv_box h) fun b3 a w s => ?_
  refine t_set (UF.eq (.int .i64 (0))) rfl s (by kernel_rfl) (fun _ _ h => h) fun a w s => ?_
  refine tail_end rfl ?_
  refine wpIn_seq ?_
  have so := s.old; have sg := s.gr
  refine region_goN 6 ((7, .s ((fRV (m) (q)).toSF)) :: (8, .s (SF.newBox w 78 (CU.agg (fQN (q))))) :: (9, .s ((fRV (m) (q')).toSF)) :: (10, .s (SF.newBox w 78 (CU.agg (fQN (q'))))) :: (5, .s (SF.newBox w 78 (CU.agg (fQN (q))))) :: (6, .s (SF.newBox w 78 (CU.agg (fQN (q'))))) :: []) hmix s (by kernel_rfl)
    (obs_cons (ok_ldW (f := fRV (m) (q)) 3 (by kernel_rfl) (hz := rv_len _ _)) <|
    obs_cons (ok_call1 wide_wide en_65 (fun u0 W hb (h0 : RVp (m) (q) u0 W) => (rof_q h0 (by omega) (hT.below (s.up hb))).mono (Ret.to (newBox_old hb.size)))) <|
    obs_cons (ok_ldW (f := fRV (m) (q')) 3 (by kernel_rfl) (hz := rv_len _ _)) <|
    obs_cons (ok_call1 wide_wide en_65 (fun u0 W hb (h0 : RVp (m) (q') u0 W) => (rof_q h0 (by omega) (hT.below (s.up hb))).mono (Ret.to (newBox_old hb.size)))) <|
    obs_cons (ok_assign) <|
    obs_cons (ok_assign) <| obs_nil) fun a w2 s hr => ?_
  obtain ⟨b5, _, s⟩ := s.adopt true 5 (hr (_, _) (.tail _ (.tail _ (.tail _ (.tail _ (.head _)))))) sg (fun y hy => .inl (so y hy))
  obtain ⟨b6, _, s⟩ := s.adopt true 6 (hr (_, _) (.tail _ (.tail _ (.tail _ (.tail _ (.tail _ (.head _))))))) sg (fun y hy => by rcases List.mem_cons.1 hy with rfl | hy; exact .inr ⟨rfl, rfl⟩; exact .inl (so y hy))
  refine tail_end rfl ?_
  refine wpIn_seq ?_
  replace s := s.drop [4]
  refine region_go 28 ((11, .s (SF.pb b5 (CU.agg (fQN (q))).cf)) :: (12, .s (SF.ptr (CU.agg (fQN (q))).cf)) :: (13, .s (SF.ptr ((CU.agg (fQN (q))).cf.at 0))) :: (14, .s (SF.ptr ((CU.agg (fQN (q))).cf.at 0))) :: (15, .s ((fNV ((q).num)).toSF)) :: (16, .s (SF.pb b6 (CU.agg (fQN (q'))).cf)) :: (17, .s (SF.ptr (CU.agg (fQN (q'))).cf)) :: (18, .s (SF.ptr ((CU.agg (fQN (q'))).cf.at 0))) :: (19, .s (SF.ptr ((CU.agg (fQN (q'))).cf.at 2))) :: (20, .s ((fNat ((q').den)).toSF)) :: (21, .s ((fNV ((((q').den : Nat) : Int))).toSF)) :: (22, .s (fISV ((m + m)) [(q).num, (((q').den : Nat) : Int)])) :: (23, .s ((fNV (((q).num * (((q').den : Nat) : Int)))).toSF)) :: (24, .s (SF.pb b6 (CU.agg (fQN (q'))).cf)) :: (25, .s (SF.ptr (CU.agg (fQN (q'))).cf)) :: (26, .s (SF.ptr ((CU.agg (fQN (q'))).cf.at 0))) :: (27, .s (SF.ptr ((CU.agg (fQN (q'))).cf.at 0))) :: (28, .s ((fNV ((q').num)).toSF)) :: (29, .s (SF.pb b5 (CU.agg (fQN (q))).cf)) :: (30, .s (SF.ptr (CU.agg (fQN (q))).cf)) :: (31, .s (SF.ptr ((CU.agg (fQN (q))).cf.at 0))) :: (32, .s (SF.ptr ((CU.agg (fQN (q))).cf.at 2))) :: (33, .s ((fNat ((q).den)).toSF)) :: (34, .s ((fNV ((((q).den : Nat) : Int))).toSF)) :: (35, .s (fISV ((m + m)) [(q').num, (((q).den : Nat) : Int)])) :: (36, .s ((fNV (((q').num * (((q).den : Nat) : Int)))).toSF)) :: (37, .s ((UF.eq (.int .i64 (qsg q q'))).toSF)) :: (4, .u (UF.eq (.int .i64 (qsg q q')))) :: []) hmix s (by kernel_rfl)
    (obs_cons (ok_move) <|
    obs_cons (ok_nil (C := (CU.agg (fQN (q))).cf)) <|
    obs_cons (ok_fld (C := (CU.agg (fQN (q))).cf) 0 (by kernel_rfl)) <|
    obs_cons (ok_fldn (C := (CU.agg (fQN (q))).cf) 0 0 (by kernel_rfl)) <|
    obs_cons (ok_ldA (C := (CU.agg (fQN (q))).cf) (k := 0) 2 (by kernel_rfl) (h := qn_num)) <|
    obs_cons (ok_move) <|
    obs_cons (ok_nil (C := (CU.agg (fQN (q'))).cf)) <|
    obs_cons (ok_fld (C := (CU.agg (fQN (q'))).cf) 0 (by kernel_rfl)) <|
    obs_cons (ok_fldn (C := (CU.agg (fQN (q'))).cf) 0 2 (by kernel_rfl)) <|
    obs_cons (ok_ld (C := (CU.agg (fQN (q'))).cf) (k := 2) (by kernel_rfl) (h := qn_den)) <|
    obs_cons (ok_call1 wide_wide en_69 (fun u0 W hb (h0 : NatV W u0 ((q').den)) => whole_v h0)) <|
    obs_cons (ok_slice2 (fun u v W (hu : NV W u ((q).num)) (hv : NV W v ((((q').den : Nat) : Int))) => sl_int2 (NV.uv' hu (Bd.mono (hq).1 (m' := (m + m)) (by first | omega | decide))) (NV.uv' hv (Bd.mono (bd_nat hq'.2) (m' := (m + m)) (by first | omega | decide))))) <|
    obs_cons (ok_call1 wide_wide en_68 (fun u0 W hb (h0 : ISV W ((m + m)) u0 [(q).num, (((q').den : Nat) : Int)]) => mul_w (k := ((q).num * (((q').den : Nat) : Int))) h0 (by show (m + m) * 2 + (m + m) + 1 ≤ 40000; omega) (by simp) (by simp))) <|
    obs_cons (ok_move) <|
    obs_cons (ok_nil (C := (CU.agg (fQN (q'))).cf)) <|
    obs_cons (ok_fld (C := (CU.agg (fQN (q'))).cf) 0 (by kernel_rfl)) <|
    obs_cons (ok_fldn (C := (CU.agg (fQN (q'))).cf) 0 0 (by kernel_rfl)) <|
    obs_cons (ok_ldA (C := (CU.agg (fQN (q'))).cf) (k := 0) 2 (by kernel_rfl) (h := qn_num)) <|
    obs_cons (ok_move) <|
    obs_cons (ok_nil (C := (CU.agg (fQN (q))).cf)) <|
    obs_cons (ok_fld (C := (CU.agg (fQN (q))).cf) 0 (by kernel_rfl)) <|
    obs_cons (ok_fldn (C := (CU.agg (fQN (q))).cf) 0 2 (by kernel_rfl)) <|
    obs_cons (ok_ld (C := (CU.agg (fQN (q))).cf) (k := 2) (by kernel_rfl) (h := qn_den)) <|
    obs_cons (ok_call1 wide_wide en_69 (fun u0 W hb (h0 : NatV W u0 ((q).den)) => whole_v h0)) <|
    obs_cons (ok_slice2 (fun u v W (hu : NV W u ((q').num)) (hv : NV W v ((((q).den : Nat) : Int))) => sl_int2 (NV.uv' hu (Bd.mono (hq').1 (m' := (m + m)) (by first | omega | decide))) (NV.uv' hv (Bd.mono (bd_nat hq.2) (m' := (m + m)) (by first | omega | decide))))) <|
    obs_cons (ok_call1 wide_wide en_68 (fun u0 W hb (h0 : ISV W ((m + m)) u0 [(q').num, (((q).den : Nat) : Int)]) => mul_w (k := ((q').num * (((q).den : Nat) : Int))) h0 (by show (m + m) * 2 + (m + m) + 1 ≤ 40000; omega) (by simp) (by simp))) <|
    obs_cons (ok_call2 wide_wide en_67 (fun u0 u1 W hb (h0 : NV W u0 (((q).num * (((q').den : Nat) : Int)))) (h1 : NV W u1 (((q').num * (((q).den : Nat) : Int)))) => calls_eq (cmp_v (NV.uv' h0 (Bd.mul (hq).1 (bd_nat hq'.2))) (NV.uv' h1 (Bd.mul (hq').1 (bd_nat hq.2))) (by omega)))) <|
    obs_cons (ok_assign) <| obs_nil) fun a w3 s => ?_
  refine tail_end rfl ?_
  refine wpIn_ret ?_
  exact StS.res1 s (t := 4) rfl (fun _ _ h => h)

set_option maxRecDepth 100000 in
theorem rSame_q {W : World} {m : Nat} {v v' : Value} {q q' : Rat} (h : RVp m q v W) (h' : RVp m q' v' W) (hm : m ≤ 1000) (hm0 : 0 < m) (hT : Tab W) : Calls Tryd.prog 38 #[v, v'] W (Ret W (fB (qsg q q' == 0)).toSF) := by
  have hmix : Tryd.prog.follows .mixedOrders = true := by kernel_rfl
  have en_39 : Enters Tryd.prog 39 := enters_of Tryd.func39 (by kernel_rfl) rfl
  refine run_st [(fRV m q).toSF, (fRV m q').toSF] Tryd.func38 rfl (by kernel_rfl) ⟨h, h', trivial⟩ fun a s => ?_
  refine wpIn_seq ?_
  refine region_go 0 [] hmix s (by kernel_rfl)
    obs_nil fun a w1 s => ?_
  refine t_box (CU.agg (fRV (m) (q))) rfl s (by kernel_rfl) (fun v W h => rv_box h) fun b2 a w s => ?_
  refine t_box (CU.agg (fRV (m) (q'))) rfl s (by kernel_rfl) (fun v W h => rv_box h) fun b3 a w s => ?_
  refine t_set (UF.eq (.bool false)) rfl s (by kernel_rfl) (fun _ _ h => h) fun a w s => ?_
  refine tail_end rfl ?_
  refine wpIn_seq ?_
  replace s := s.drop [4]
  refine region_go 5 ((5, .s ((fRV (m) (q)).toSF)) :: (6, .s ((fRV (m) (q')).toSF)) :: (7, .s ((UF.eq (.int .i64 (qsg q q'))).toSF)) :: (8, .s ((UF.eq (.bool (qsg q q' == 0))).toSF)) :: (4, .u (UF.eq (.bool (qsg q q' == 0)))) :: []) hmix s (by kernel_rfl)
    (obs_cons (ok_ldW (f := fRV (m) (q)) 3 (by kernel_rfl) (hz := rv_len _ _)) <|
    obs_cons (ok_ldW (f := fRV (m) (q')) 3 (by kernel_rfl) (hz := rv_len _ _)) <|
    obs_cons (ok_call2 wide_wide en_39 (fun u0 u1 W hb (h0 : RVp (m) (q) u0 W) (h1 : RVp (m) (q') u1 W) => rCmp_q h0 h1 hm hm0 (hT.below (s.up hb)))) <|
    obs_cons (ok_bin (.int .i64 (qsg q q')) (.int .i64 0) (.bool (qsg q q' == 0)) (fun _ _ h => h) (fun _ _ h => h) (fun _ => rfl) (fun _ => rfl) (fun _ => rfl)) <|
    obs_cons (ok_assign) <| obs_nil) fun a w2 s => ?_
  refine tail_end rfl ?_
  refine wpIn_ret ?_
  exact StS.res1 s (t := 4) rfl (fun _ _ h => h)

end Go.Proofs.Wd


namespace Go.Proofs.Wd
open Go.RowKit Lb
attribute [local go_sem] Oper.semAt_some wide_fn wide_depth

/-- A slice of rationals: its cells lie three by three. -/
structure QRd (m : Nat) (w : World) (A : Option Addr) (n : Nat) (qs : List Rat) : Prop where
  len : qs.length = n
  cells : ∀ i, i < n → ∃ b o c0 c1 c2 q, A = some ⟨b, o, none⟩ ∧ w.cell? ⟨b, o + i * 3, none⟩ = some c0 ∧ w.cell? ⟨b, o + i * 3 + 1, none⟩ = some c1 ∧ w.cell? ⟨b, o + i * 3 + 2, none⟩ = some c2 ∧ qs[i]? = some q ∧ RVp m q (.agg #[c0, c1, c2]) w
theorem RVp.keep {m : Nat} {q : Rat} {v : Value} {w w' : World} (h : RVp m q v w) (hk : ∀ p : Addr, p.block < w.heap.size → w'.cell? p = w.cell? p) : RVp m q v w' := by
  obtain ⟨k, d, ⟨b, s, t, e, ⟨sg, A, n, c, l, e1, h1, h2⟩, A', n', c', l', e2, h1', h2'⟩, h3⟩ := h
  exact ⟨k, d, ⟨b, s, t, e, ⟨sg, A, n, c, l, e1, h1.keep hk, h2⟩, A', n', c', l', e2, h1'.keep hk, h2'⟩, h3⟩
theorem QRd.keep {m : Nat} {w w' : World} {A : Option Addr} {n : Nat} {qs : List Rat} (h : QRd m w A n qs) (hk : ∀ p : Addr, p.block < w.heap.size → w'.cell? p = w.cell? p) : QRd m w' A n qs :=
  ⟨h.len, fun i hi => by
    obtain ⟨b, o, c0, c1, c2, q, e, g0, g1, g2, h1, h2⟩ := h.cells i hi
    exact ⟨b, o, c0, c1, c2, q, e, (hk _ (World.block_lt_of_cell? w _ g0)).trans g0, (hk _ (World.block_lt_of_cell? w _ g1)).trans g1, (hk _ (World.block_lt_of_cell? w _ g2)).trans g2, h1, h2.keep hk⟩⟩
theorem QRd.below {m : Nat} {w w' : World} {A : Option Addr} {n : Nat} {qs : List Rat} (h : QRd m w A n qs) (hb : Below w.heap.size w w') : QRd m w' A n qs := h.keep fun _ hp => hb.cell hp
theorem RVp.below {m : Nat} {q : Rat} {v : Value} {w w' : World} (h : RVp m q v w) (hb : Below w.heap.size w w') : RVp m q v w' := h.keep fun _ hp => hb.cell hp
/-- The k-th of a row of rationals. -/
def qAt (qs : List Rat) (k : Nat) : Rat := (qs[k]?).getD 0
/-- The box of a rational that is reckoned with. -/
def NumQ (W : World) (B : Nat) (q : Rat) : Prop := ∃ cs : List Value, W.heap[B]? = some (.cells cs.toArray 78 (0, 0)) ∧ QNp q (.agg cs.toArray) W
theorem QNp.keepU {q : Rat} {v : Value} {w w' : World} (h : QNp q v w) (hk : KeepU w w') : QNp q v w' := (fQN q).us _ _ _ h hk
theorem NumQ.kept {W W' : World} {B : Nat} {q : Rat} (h : NumQ W B q) (hb : Below W.heap.size W W') : NumQ W' B q := by
  obtain ⟨cs, h1, h2⟩ := h
  exact ⟨cs, (hb.block _ (Array.getElem?_eq_some_iff.1 h1).1).trans h1, h2.keepU (keepU_below hb)⟩
theorem NumQ.lt {W : World} {B : Nat} {q : Rat} (h : NumQ W B q) : B < W.heap.size := by
  obtain ⟨cs, h1, _⟩ := h
  exact (Array.getElem?_eq_some_iff.1 h1).1
/-- What all hands over. -/
def AllQ (N0 : Nat) (qs : List Rat) (k : Nat) (xs : Array Value) (W : World) : Prop := ∃ B, xs = #[.pointer (some ⟨B, 0, none⟩)] ∧ N0 ≤ B ∧ NumQ W B (qAt qs k)

set_option maxHeartbeats 400000 in
theorem qall_any (A : Option Addr) (n c : Nat) (w : World) :
    Calls Tryd.prog 70 #[.slice A n c] w fun e w' => e = .returned (.func (.func 98) #[] #[.pointer (some ⟨w.heap.size, 0, none⟩)]) ∧ w' = w.alloc (.cells #[.slice A n c] 73) := by
  go_enter Tryd.func70, Tryd.ntmps70
  go_wp2
  go_ret
  exact ⟨rfl, rfl⟩

theorem rof_n {W : World} {m : Nat} {c0 c1 c2 : Value} {q : Rat} (h : RVp m q (.agg #[c0, c1, c2]) W) (hm : m ≤ 1000) (hT : Tab W) : Calls Tryd.prog 65 #[.agg #[c0, c1, c2]] W fun e w' => ∃ B, e = .returned (.pointer (some ⟨B, 0, none⟩)) ∧ W.heap.size ≤ B ∧ NumQ w' B q ∧ Below W.heap.size W w' :=
  (rof_q h hm hT).mono fun _ _ ⟨_, e1, ⟨B, cs, e2, h1, h2, h3, _⟩, hb⟩ => ⟨B, by rw [e1, e2], h1, ⟨cs, h2, h3⟩, hb⟩

set_option maxRecDepth 100000 in
set_option maxHeartbeats 1000000 in
theorem qall1_iter (m : Nat) (hm : m ≤ 1000) (A : Option Addr) (n c : Nat) (qs : List Rat) (b1 : Nat) (w w0 : World) (h : QRd m w A n qs) (hT : Tab w) (hw0 : Below w.heap.size w w0) (hn : n ≤ c) (hc : c ≤ 9223372036854775807)
    (hc1 : w0.cell? ⟨b1, 0, none⟩ = some (.slice A n c)) {S : Nat → Prop} (hS : ∀ b, S b → b < w0.heap.size) (_hS1 : S b1) (hSA : ∀ b, b < w.heap.size → S b) :
    IterE Tryd.prog 98 #[.pointer (some ⟨b1, 0, none⟩)] (AllQ w0.heap.size qs) n (KeepZ S) Mk (fun _ => True) w0 := by
  intro lp J W hW hJ hY h0
  have hl1 := lt_of_cell hc1
  have hw1 := (hW.cell (p := ⟨b1, 0, none⟩) hl1).trans hc1
  refine calls_in Tryd.func98 rfl ?_
  simp only [Tryd.ntmps98, List.size_toArray, List.length_cons, List.length_nil, Nat.reduceAdd, Nat.reduceSub, Array.replicate_succ, Array.replicate_zero, List.push_toArray, List.append_toArray, List.nil_append, List.cons_append]
  gi_wp2
  gi_loopw [7] (fun i wr => ∃ k : Nat, k ≤ n ∧ i = .int .i64 k ∧ J k wr ∧ KeepS S w0 wr ∧ w0.heap.size ≤ wr.heap.size) (fun i _ => n - (intOf i).toNat)
  case atStart => exact ⟨0, Nat.zero_le _, rfl, h0, KeepS.of_below hW hS, hW.size⟩
  case round =>
    obtain ⟨k, hk, rfl, hj, hb, hz⟩ := hrel
    by_cases hkn : k < n
    · have hkeep : ∀ p : Addr, p.block < w.heap.size → wr.cell? p = w.cell? p := fun p hp => (hb.cell (hSA _ hp)).trans (hw0.cell hp)
      obtain ⟨b, o, c0, c1, c2, q, rfl, p0, p1, p2, hi, hr⟩ := (h.keep (w' := wr) hkeep).cells k hkn
      have hTr : Tab wr := fun j hj => (hkeep ⟨0, j, none⟩ (lt_of_cell (hT j hj))).trans (hT j hj)
      have hid1 : qAt qs k = q := by simp [qAt, hi]
      have hjk := hJ k wr
      have hHI := hid hi
      clear hi
      obtain ⟨sg, A1, n1, d1, A2, n2, d2, rfl, rfl, rfl⟩ : ∃ sg A1 n1 d1 A2 n2 d2, c0 = .bool sg ∧ c1 = .slice A1 n1 d1 ∧ c2 = .slice A2 n2 d2 := by
        obtain ⟨k', d', hq, _⟩ := hr
        obtain ⟨sg, A1, n1, d1, A2, n2, d2, e⟩ := qv_form hq
        have := congrArg Array.toList (agg_inj e)
        simp at this
        exact ⟨sg, A1, n1, d1, A2, n2, d2, this.1, this.2.1, this.2.2⟩
      gi_wp2_with (first | (gi_at_call 65; refine CallsIn.mono (callsIn_wide.2 (rof_n (hr.below (alloc_b _ _)) hm (hTr.below (alloc_b _ _)))) ?_; rintro e w2 ⟨B2, rfl, hB2, hn2, hb2⟩; have hmk : Mk wr w2 := ((Below.refl _ wr).alloc (Nat.le_refl _) _).trans (hb2.mono (by simp)); obtain ⟨fn, tmps, assign, body, hy, hR⟩ := hY k w2 #[.pointer (some ⟨B2, 0, none⟩)] hkn (hjk _ hj hmk) ⟨B2, rfl, Nat.le_trans hz (Nat.le_trans (by simp) hB2), by rw [hid1]; exact hn2⟩) | (refine hR.mono ?_; rintro e W3 ⟨rfl, hJ3, hk3⟩))
      refine ⟨⟨k + 1, by omega, rfl, hJ3, (hb.trans (KeepS.of_below hmk fun b hb => Nat.lt_of_lt_of_le (hS b hb) hz)).trans hk3.1, Nat.le_trans hz (Nat.le_trans hmk.size hk3.2)⟩, ?_⟩
      simp [intOf]
      omega
    · obtain rfl : k = n := by omega
      gi_wp2
      go_end0
      exact ⟨⟨_, rfl⟩, hj, trivial⟩

/-- The sum, the product of the first k. -/
def qsum (qs : List Rat) : Nat → Rat
  | 0 => 0
  | k + 1 => qsum qs k + qAt qs k
/-- What the loop of Add, of Mul keeps. -/
def SaddQ (w : World) (B0 P : Nat) (f : Nat → Rat) (k : Nat) (W : World) : Prop :=
  NumQ W B0 (f k) ∧ Boxed W P 79 (.pointer (some ⟨B0, 0, none⟩)) ∧ BoxN W w.heap.size 43 #[.bool false, .slice none 0 0, .slice none 0 0] ∧ Below w.heap.size w W ∧ P + 2 ≤ W.heap.size ∧ w.heap.size < B0
theorem NumQ.abide {W W' : World} {B C : Nat} {q : Rat} {row : Option Nat} (h : NumQ W B q) (hg : W.grownBy W' row) (hr : ∀ r, row = some r → C ≤ r ∧ ∃ o, W.heap[r]? = some o ∧ o.isCells = false) : NumQ W' B q := by
  obtain ⟨cs, h1, h2⟩ := h
  have hk : KeepU W W' := fun p x hp => cell_abide hp hg hr
  refine ⟨cs, (hg.block _ (Array.getElem?_eq_some_iff.1 h1).1 fun e => ?_).trans h1, h2.keepU hk⟩
  obtain ⟨_, o, ho, hc⟩ := hr _ e.symm
  rw [h1] at ho
  cases ho
  cases hc
theorem saddQ_own (w : World) (B0 P : Nat) (f : Nat → Rat) {C : Nat} (hC : w.heap.size ≤ C) : OwnFrom C (SaddQ w B0 P f) := by
  rintro k W W' row ⟨h1, h2, h3, h4, h5, h6⟩ hg hr
  exact ⟨h1.abide hg hr, boxed_abide h2 hg hr, h3.abide hg hr, below_abide h4 hg (Nat.le_refl _) hC hr, Nat.le_trans h5 hg.size, h6⟩

set_option maxRecDepth 100000 in
set_option maxHeartbeats 1000000 in
theorem rAdd_any (m M : Nat) (A : Option Addr) (n c : Nat) (qs : List Rat) (w : World) (h : QRd m w A n qs) (hn : n ≤ c) (hc : c ≤ 9223372036854775807) (hm : m ≤ 1000) (hm0 : 0 < m) (hM : M + m + 1 ≤ 1000) (hp : ∀ k, k ≤ n → QB (qsum qs k) M) (hT : Tab w) :
    Calls Tryd.prog 40 #[.slice A n c] w (Ret w (fQN (qsum qs n)).toSF) := by
  refine calls_marks Tryd.func40 rfl ?_
  simp only [Tryd.ntmps40, List.size_toArray, List.length_cons, List.length_nil, Nat.reduceAdd, Nat.reduceSub, Array.replicate_succ, Array.replicate_zero, List.push_toArray, List.append_toArray, List.nil_append, List.cons_append]
  go_wp2_with (first | (go_at_call 37; refine (rof_v 0 (by decide)).mono ?_; rintro e w1 ⟨v1, rfl, hv1, hb1⟩; obtain ⟨A1, n1, c1, A2, n2, c2, rfl⟩ := qn_form hv1) | (go_at_call 70; refine (qall_any A n c _).mono ?_; rintro e w3 ⟨rfl, rfl⟩))
  have hv2 : QNp 0 (.agg #[.bool false, .slice A1 n1 c1, .slice A2 n2 c2]) w1 := hv1
  obtain ⟨W0, hW0⟩ : ∃ W0, (((w1.alloc (.cells #[.bool false, .slice A1 n1 c1, .slice A2 n2 c2] 78)).alloc (.cells #[.pointer (some ⟨w1.heap.size, 0, none⟩)] 79)).alloc (.cells #[.slice A n c] 73)) = W0 := ⟨_, rfl⟩
  have hsz : W0.heap.size = w1.heap.size + 3 := by rw [← hW0]; simp
  have hbw1 : Below w.heap.size w w1 := ((Below.refl _ w).alloc (Nat.le_refl _) _).trans (hb1.mono (by simp))
  have hsz1 : w.heap.size < w1.heap.size := Nat.lt_of_lt_of_le (by simp) hb1.size
  have hb01 : Below w1.heap.size w1 W0 := by rw [← hW0]; exact (((Below.refl _ w1).alloc (Nat.le_refl _) _).alloc (by simp) _).alloc (by simp; omega) _
  have hB1 : Below w.heap.size w W0 := hbw1.trans (hb01.mono hbw1.size)
  have x0 : NumQ W0 w1.heap.size 0 := ⟨[_, _, _], (by rw [← hW0]; exact ((BoxN.new w1 _ #[.bool false, .slice A1 n1 c1, .slice A2 n2 c2]).alloc _).alloc _), hv2.keepU (keepU_below hb01)⟩
  have x1 : Boxed W0 (w1.heap.size + 1) 79 (.pointer (some ⟨w1.heap.size, 0, none⟩)) := by rw [← hW0]; exact (boxed_at _ _ _ (by simp)).alloc _
  have x2 : Boxed W0 (w1.heap.size + 1 + 1) 73 (.slice A n c) := by rw [← hW0]; exact boxed_at _ _ _ (by simp)
  have x3 : BoxN W0 w.heap.size 43 #[.bool false, .slice none 0 0, .slice none 0 0] := (BoxN.kept (BoxN.kept (BoxN.new w _ _) hb1) hb01)
  rw [hW0]
  clear hW0
  have hSb : ∀ b, (b < w.heap.size ∨ b = w1.heap.size + 1 + 1) → b < W0.heap.size := fun b hb => by have := hbw1.size; omega
  refine wp_rangeE (gf := 98) rfl (enters_of Tryd.func98 (by kernel_rfl) rfl) (qall1_iter m hm A n c qs (w1.heap.size + 1 + 1) w W0 h hT hB1 hn hc x2.cell (S := fun b => b < w.heap.size ∨ b = w1.heap.size + 1 + 1) hSb (.inr rfl) (fun b hb => .inl hb)) ?hE ?hps KeepZ.trans (keepZ_b hSb)
    (SaddQ w w1.heap.size (w1.heap.size + 1) (qsum qs)) (saddQ_own w _ _ _ hB1.size) (abide_mk (saddQ_own w _ _ _ (Nat.le_refl _))) Mk.keeps (fun _ _ _ _ _ _ _ _ => trivial) ⟨x0, x1, x3, hB1, by omega, hsz1⟩
    (fun xs => { tmps := #[.slice A n c, undef, .pointer (some ⟨w.heap.size, 0, none⟩), .pointer (some ⟨w1.heap.size + 1, 0, none⟩), xs.getD 0 undef, .agg #[.bool false, .slice A1 n1 c1, .slice A2 n2 c2], .agg #[.bool false, .slice A1 n1 c1, .slice A2 n2 c2], .pointer (some ⟨w1.heap.size, 0, none⟩), .slice A n c, .func (.func 98) #[] #[.pointer (some ⟨w1.heap.size + 1 + 1, 0, none⟩)], xs.getD 0 undef, undef, undef, undef, undef, undef, undef, undef], defers := [] }) ?assign ?body ?done
  case hE =>
    rintro k xs W l o o' ⟨B, rfl, h1, h2⟩ ho hc
    exact ⟨B, rfl, h1, h2.abide (C := 0) (grownBy_putObj' W l o') (fun r e => by cases e; exact ⟨Nat.zero_le _, o, ho, hc⟩)⟩
  case hps =>
    rintro k xs W ⟨B, rfl, _⟩
    rfl
  case assign =>
    rintro lp k xs W K ⟨B, rfl, h1, h2⟩ hK
    gi_wp2
    exact hK
  case body =>
    rintro lp k xs W hk ⟨h1, h2, h3, h4, h5, h6⟩ ⟨B, rfl, hB, hnb⟩
    have hc2 := h2.cell
    have hne : B ≠ w1.heap.size := by omega
    have hbd := hp k (Nat.le_of_lt hk)
    have hbd2 : QB (qAt qs k) m := by
      obtain ⟨_, _, _, _, _, q, _, _, _, _, e, hr⟩ := h.cells k hk
      rw [show qAt qs k = q from by simp [qAt, e]]
      exact hr.qb hm0
    have hTW : Tab W := hT.below h4
    gi_wp2_with (gi_at_call 71; refine CallsIn.mono (callsIn_wide.2 (by
      obtain ⟨cs, g1, g2⟩ := h1
      obtain ⟨cs', g1', g2'⟩ := hnb
      exact numadd_r g1 g2 g1' g2' hne hbd hbd2 (by omega) hTW)) ?_; rintro e w3 ⟨u, rfl, _, hg3, cs3, hh3, hc3, _⟩)
    refine ⟨(KeepsOthers.of_grownBy hg3 (fun j o e ho => by cases e; obtain ⟨cs, g1, _⟩ := h1; rw [g1] at ho; cases ho; rfl)).from _, ⟨(KeepS.refl _ _).grown hg3 (fun b hb => ⟨by have := h4.size; rcases hb with hb | hb <;> omega, fun e => by have := Option.some.inj e; omega⟩), hg3.size⟩, ⟨cs3, hh3, hc3⟩, h2.kept hg3 (fun e => by have := Option.some.inj e; omega), (hg3.block _ h3.lt (fun e => by have := Option.some.inj e; omega)).trans h3, below_grown h4 hg3 h4.size (by omega), Nat.le_trans h5 hg3.size, h6⟩
  case done =>
    rintro D W hD ⟨h1, h2, h3, h4, h5, h6⟩ _ hd
    obtain ⟨cs, hh, hq⟩ := h1
    obtain ⟨A3, n3, c3, A4, n4, c4, ecs⟩ := qn_form hq
    have ecs := congrArg Array.toList (agg_inj ecs)
    simp at ecs
    subst ecs
    obtain ⟨g0, g1, g2⟩ : W.cell? ⟨w1.heap.size, 0, none⟩ = some (.bool (decide ((qsum qs n).num < 0))) ∧ W.cell? ⟨w1.heap.size, 0 + 1, none⟩ = some (.slice A3 n3 c3) ∧ W.cell? ⟨w1.heap.size, 0 + 2, none⟩ = some (.slice A4 n4 c4) := ⟨mem_block hh 0 _ rfl, mem_block hh 1 _ rfl, mem_block hh 2 _ rfl⟩
    simp only [Nat.zero_add] at g1 g2
    have hc2 := h2.cell
    have q0 : W.cell? ⟨w.heap.size, 0, none⟩ = some (.bool false) := h3.cell 0
    have q1 : W.cell? ⟨w.heap.size, 1, none⟩ = some (.slice none 0 0) := h3.cell 1
    have q2 : W.cell? ⟨w.heap.size, 2, none⟩ = some (.slice none 0 0) := h3.cell 2
    have q3 := h3.frozen 0; have q4 := h3.frozen 1; have q5 := h3.frozen 2
    go_wp2
    have hb5 : BoxN (((W.setCell ⟨w.heap.size, 0, none⟩ (.bool (decide ((qsum qs n).num < 0)))).setCell ⟨w.heap.size, 1, none⟩ (.slice A3 n3 c3)).setCell ⟨w.heap.size, 2, none⟩ (.slice A4 n4 c4)) w.heap.size 43 #[.bool (decide ((qsum qs n).num < 0)), .slice A3 n3 c3, .slice A4 n4 c4] := ((h3.set 0 _).set 1 _).set 2 _
    have hM2 : Marks w.heap.size (((W.setCell ⟨w.heap.size, 0, none⟩ (.bool (decide ((qsum qs n).num < 0)))).setCell ⟨w.heap.size, 1, none⟩ (.slice A3 n3 c3)).setCell ⟨w.heap.size, 2, none⟩ (.slice A4 n4 c4)) [mark D] [D] := ((Marks.nil w.heap.size W).more (D := D) (by simp) (by have := hB1.size; omega) hd).others (((KeepsOthers.setCell _ _ _).trans (KeepsOthers.setCell _ _ _)).trans (KeepsOthers.setCell _ _ _))
    have hrow : ∀ (W' : World) (i : Nat) (v u : Value), W'.cell? ⟨w.heap.size, i, none⟩ = some u → noLimb u = true → KeepU W' (W'.setCell ⟨w.heap.size, i, none⟩ v) := fun W' i v u hu hn p x hp => (World.cell?_setCell_other _ _ _ _ (fun e => by rw [← e] at hp; rw [hu] at hp; cases hp; cases hn)).trans hp
    have hk3 : KeepU W (((W.setCell ⟨w.heap.size, 0, none⟩ (.bool (decide ((qsum qs n).num < 0)))).setCell ⟨w.heap.size, 1, none⟩ (.slice A3 n3 c3)).setCell ⟨w.heap.size, 2, none⟩ (.slice A4 n4 c4)) := ((hrow _ _ _ _ q0 rfl).trans (hrow _ _ _ _ ((h3.set 0 _).cell 1) rfl)).trans (hrow _ _ _ _ (((h3.set 0 _).set 1 _).cell 2) rfl)
    have hq3 := hq.keepU hk3
    have hb3 : Below w.heap.size w (((W.setCell ⟨w.heap.size, 0, none⟩ (.bool (decide ((qsum qs n).num < 0)))).setCell ⟨w.heap.size, 1, none⟩ (.slice A3 n3 c3)).setCell ⟨w.heap.size, 2, none⟩ (.slice A4 n4 c4)) := ((h4.setCell (Nat.le_refl _) _).setCell (Nat.le_refl _) _).setCell (Nat.le_refl _) _
    generalize ((W.setCell ⟨w.heap.size, 0, none⟩ (.bool (decide ((qsum qs n).num < 0)))).setCell ⟨w.heap.size, 1, none⟩ (.slice A3 n3 c3)).setCell ⟨w.heap.size, 2, none⟩ (.slice A4 n4 c4) = W9 at *
    refine leaves_marks _ (v := .agg #[.bool (decide ((qsum qs n).num < 0)), .slice A3 n3 c3, .slice A4 n4 c4]) (fun w' ho' => ?_) [D] _ _ hM2 (Oth.refl _ _) ?_
    · have h7 := hb5.oth ho'
      have := run_cell (P := Tryd.prog) (w := w') (t := 43) (k := 3) (by kernel_rfl) (vs := [.bool (decide ((qsum qs n).num < 0)), .slice A3 n3 c3, .slice A4 n4 c4]) rfl h7
      simp [results, Tryd.results40, asAddr, this]
    · intro w' ho
      exact ⟨_, rfl, hq3.keepU (fun p x hp => (ho.cell p).trans hp), below_oth hb3 ho (Nat.le_refl _)⟩

/-- A slice of rationals, by their values. -/
def fQS (m : Nat) (qs : List Rat) : SF := ⟨fun v W => ∃ A c, v = .slice A qs.length c ∧ qs.length ≤ c ∧ c ≤ 9223372036854775807 ∧ QRd m W A qs.length qs, fun _ _ _ ⟨A, c, h1, h2, h3, h4⟩ hb => ⟨A, c, h1, h2, h3, h4.below hb⟩⟩
theorem s_rat2 (s s' : Bool) (A A' D D' : Option Addr) (n n' c c' i i' j j' : Nat) : sliceCells Tryd.prog 73 2 [(0, .agg #[.bool s, .slice A n c, .slice D i j]), (1, .agg #[.bool s', .slice A' n' c', .slice D' i' j'])] = some (43, #[.bool s, .slice A n c, .slice D i j, .bool s', .slice A' n' c', .slice D' i' j']) := by kernel_rfl
theorem sl_rat2 {u v : Value} {W : World} {m : Nat} {p q : Rat} (hu : RVp m p u W) (hv : RVp m q v W) : ∃ e cs, sliceCells Tryd.prog 73 2 [(0, u), (1, v)] = some (e, cs) ∧ (fQS m [p, q]).p (.slice (some ⟨W.heap.size, 0, none⟩) 2 2) (W.alloc (.cells cs e)) := by
  obtain ⟨k, d, h1, h2⟩ := id hu
  obtain ⟨k', d', h1', h2'⟩ := id hv
  obtain ⟨s, A, n, c, D, i, j, rfl⟩ := qv_form h1
  obtain ⟨s', A', n', c', D', i', j', rfl⟩ := qv_form h1'
  refine ⟨_, _, s_rat2 s s' A A' D D' n n' c c' i i' j j', some ⟨W.heap.size, 0, none⟩, 2, rfl, Nat.le_refl _, by decide, rfl, fun x hx => ?_⟩
  have hb := alloc_b W (.cells #[.bool s, .slice A n c, .slice D i j, .bool s', .slice A' n' c', .slice D' i' j'] 43)
  rcases (by simp at hx; omega : x = 0 ∨ x = 1) with rfl | rfl
  · exact ⟨_, 0, _, _, _, p, rfl, mem_new W _ _ 0 _ rfl, mem_new W _ _ 1 _ rfl, mem_new W _ _ 2 _ rfl, rfl, hu.below hb⟩
  · exact ⟨_, 0, _, _, _, q, rfl, mem_new W _ _ 3 _ rfl, mem_new W _ _ 4 _ rfl, mem_new W _ _ 5 _ rfl, rfl, hv.below hb⟩
theorem radd_w {W : World} {m : Nat} {v : Value} {qs : List Rat} (M : Nat) (h : (fQS m qs).p v W) (hm0 : 0 < m) (hM : M + m + 1 ≤ 1000) (hp : ∀ k, k ≤ qs.length → QB (qsum qs k) M) (hT : Tab W) : Calls Tryd.prog 40 #[v] W (Ret W (fQN (qsum qs qs.length)).toSF) := by
  obtain ⟨A, c, rfl, h1, h2, h3⟩ := h
  exact rAdd_any m M A qs.length c qs W h3 h1 h2 (by omega) hm0 hM hp hT
theorem QB.zero {m : Nat} (hm : 0 < m) : QB 0 m := ⟨Nat.pow_pos BB_pos, one_lt_BB hm⟩
theorem QB.one {m : Nat} (hm : 0 < m) : QB 1 m := ⟨one_lt_BB hm, one_lt_BB hm⟩
theorem qsum2 (p q : Rat) : qsum [p, q] 2 = p + q := by
  show (0 + p) + q = _
  rw [Rat.zero_add]
theorem radd2_w {W : World} {m : Nat} {v : Value} {p q : Rat} (h : (fQS m [p, q]).p v W) (hp : QB p m) (hq : QB q m) (hm : 3 * m + 2 ≤ 1000) (hT : Tab W) : Calls Tryd.prog 40 #[v] W (Ret W (fQN (p + q)).toSF) := by
  have := radd_w (m + m + 1) h hp.pos (by omega) (fun k hk => by
    rcases (by simp at hk; omega : k = 0 ∨ k = 1 ∨ k = 2) with rfl | rfl | rfl
    · exact QB.zero (by omega)
    · show QB (0 + p) _
      rw [Rat.zero_add]
      exact hp.mono (by omega)
    · rw [qsum2]
      exact hp.add hq) hT
  rw [show ([p, q] : List Rat).length = 2 from rfl, qsum2] at this
  exact this
end Go.Proofs.Wd


namespace Go.Proofs.Wd
open Go.RowKit Lb

theorem up1_v {W : World} {m : Nat} {v : Value} {x : Nat} (h : LV W m v x) (hm : m ≤ 100000) : Calls Tryd.prog 72 #[v, .int .i64 1] W (RetN W (x * 2)) := by
  obtain ⟨A, n, c, l, rfl, h1, h2, h3, rfl⟩ := h
  refine (up_any A n c l 1 W h1 h2 (by omega) (by omega)).mono fun e w' hh => ?_
  obtain ⟨A1, n1, c1, l1, rfl, g1, g2, g3⟩ := hh
  rw [Nat.pow_one] at g1
  exact ⟨_, rfl, ⟨A1, n1, c1, l1, rfl, g1, Own32.rd g2⟩, g3⟩
theorem qdiv_v {W : World} {m : Nat} {v v' : Value} {a b : Nat} (h : LV W m v a) (h' : LV W m v' b) (hm : m ≤ 1000) (h0 : 0 < b) : Calls Tryd.prog 53 #[v, v'] W (Ret W (fTup3 (fNat (a / b)) (fNat (a % b)) (fI 0)).toSF) := by
  obtain ⟨A, n, c, l, rfl, h1, h2, h3, h4⟩ := h
  obtain ⟨A', n', c', l', rfl, h1', h2', h3', h4'⟩ := h'
  refine (qdiv_all a b h0 A n c l A' n' c' l' W h1 h2 h1' h2' h4 h4' (by omega) (by omega)).mono ?_
  rintro e w4 ⟨A4, n4, c4, l4, A5, n5, c5, l5, rfl, hi4, hr4, hi5, hr5, hb5⟩
  exact ⟨_, rfl, ⟨_, _, _, rfl, ⟨A4, n4, c4, l4, rfl, hi4, hr4⟩, ⟨A5, n5, c5, l5, rfl, hi5, hr5⟩, rfl⟩, hb5⟩

theorem floor_pos (q : Rat) (hs : decide (q.num < 0) = false) : (if false then -((((q).num.natAbs / (q).den) : Nat) : Int) else ((((q).num.natAbs / (q).den) : Nat) : Int)) = q.num / (q.den : Int) := by
  have h := of_decide_eq_false hs
  rw [if_neg (by decide), Int.natCast_ediv]
  congr 1
  omega
theorem floor_negE (q : Rat) (hs : decide (q.num < 0) = true) (hr : false = decide (0 < (q).num.natAbs % (q).den)) : (if true then -((((q).num.natAbs / (q).den) : Nat) : Int) else ((((q).num.natAbs / (q).den) : Nat) : Int)) = q.num / (q.den : Int) := by
  have h := of_decide_eq_true hs
  have hr := of_decide_eq_false hr.symm
  have hd := q.den_pos
  rw [if_pos rfl]
  have h1 := Nat.div_add_mod q.num.natAbs q.den
  have h2 : q.num = -((q.den : Int) * ((q.num.natAbs / q.den : Nat) : Int)) := by
    have h3 : (q.num.natAbs : Int) = (q.den : Int) * ((q.num.natAbs / q.den : Nat) : Int) := by rw [← Int.natCast_mul]; omega
    omega
  generalize q.num.natAbs / q.den = x at *
  rw [h2, ← Int.mul_neg, Int.mul_ediv_cancel_left _ (by omega)]
theorem floor_negL (q : Rat) (hs : decide (q.num < 0) = true) (hr : true = decide (0 < (q).num.natAbs % (q).den)) : (if true then -(((((q).num.natAbs / (q).den) + 1) : Nat) : Int) else (((((q).num.natAbs / (q).den) + 1) : Nat) : Int)) = q.num / (q.den : Int) := by
  have h := of_decide_eq_true hs
  have hr := of_decide_eq_true hr.symm
  have hd := q.den_pos
  rw [if_pos rfl]
  have h1 := Nat.div_add_mod q.num.natAbs q.den
  have h4 := Nat.mod_lt q.num.natAbs hd
  have h2 : q.num = -((q.den : Int) * ((q.num.natAbs / q.den : Nat) : Int)) - ((q.num.natAbs % q.den : Nat) : Int) := by
    have h3 : (q.num.natAbs : Int) = (q.den : Int) * ((q.num.natAbs / q.den : Nat) : Int) + ((q.num.natAbs % q.den : Nat) : Int) := by rw [← Int.natCast_mul]; omega
    omega
  generalize q.num.natAbs / q.den = x at *
  generalize q.num.natAbs % q.den = y at *
  symm
  rw [Int.ediv_eq_iff_of_pos (by omega)]
  rw [h2]
  have h5 : (-((x + 1 : Nat) : Int)) * (q.den : Int) = -((q.den : Int) * x) - q.den := by rw [Int.natCast_add, Int.neg_mul, Int.add_mul, Int.mul_comm]; omega
  constructor
  · rw [h5]; omega
  · rw [h5]; omega
/-- A slice of natural numbers. -/
def fNS (m : Nat) (xs : List Nat) : SF := ⟨fun v W => LSV W m v xs, fun _ _ _ h hb => h.below hb⟩
theorem s_nat2 (A A' : Option Addr) (n n' c c' : Nat) : sliceCells Tryd.prog 36 2 [(0, .slice A n c), (1, .slice A' n' c')] = some (23, #[.slice A n c, .slice A' n' c']) := by kernel_rfl
theorem sl_nat2 {u v : Value} {W : World} {m x y : Nat} (hu : LV W m u x) (hv : LV W m v y) (hm : m ≤ 10000 := by omega) : ∃ e cs, sliceCells Tryd.prog 36 2 [(0, u), (1, v)] = some (e, cs) ∧ (fNS m [x, y]).p (.slice (some ⟨W.heap.size, 0, none⟩) 2 2) (W.alloc (.cells cs e)) := by
  obtain ⟨A, n, c, rfl⟩ := hu.form
  obtain ⟨A', n', c', rfl⟩ := hv.form
  exact ⟨_, _, s_nat2 _ _ _ _ _ _, LSV.two hu hv hm _⟩
theorem nadd2_v {W : World} {m x y : Nat} {v : Value} (h : (fNS m [x, y]).p v W) (_hm : m ≤ 10000) : Calls Tryd.prog 75 #[v] W (Ret W (fNat (x + y)).toSF) := by
  obtain ⟨A, c, ls, rfl, h1, h2, h3⟩ := h
  have := add_any A 2 c ls W h1 (by omega)
  rw [h3] at this
  simp only [List.sum_cons, List.sum_nil, Nat.add_zero] at this
  exact this.mono fun _ _ hh => RetNat.v hh

set_option maxRecDepth 100000 in
theorem rNew_z {W : World} {m : Nat} {v v' : Value} {k : Int} {d : Nat} (h : UV W m v k) (h' : LV W m v' d) (hm : m ≤ 1000) (hT : Tab W) (hz : decide (0 < d) = false) : Calls Tryd.prog 61 #[v, v'] W (Ret W (fTup2 (fQN (mkRat k d)) (fI 30)).toSF) := by
  have hmix : Tryd.prog.follows .mixedOrders = true := by kernel_rfl
  have en_92 : Enters Tryd.prog 92 := enters_of Tryd.func92 (by kernel_rfl) rfl
  refine run_st [(fUV m k).toSF, (fLV m d).toSF] Tryd.func61 rfl (by kernel_rfl) ⟨h, h', trivial⟩ fun a s => ?_
  refine wpIn_seq ?_
  refine region_go 0 [] hmix s (by kernel_rfl)
    obs_nil fun a w1 s => ?_
  refine t_box (CU.agg (fUV (m) (k))) rfl s (by kernel_rfl) (fun v W h => uv_box h) fun b2 a w s => ?_
  refine t_alloc (CU.len 3) (cs := [.bool false, .slice none 0 0, .slice none 0 0]) (by kernel_rfl) rfl s (by kernel_rfl) (fun W => rfl) rfl fun b4 a w s => ?_
  refine t_set (UF.eq (.int .i64 (0))) rfl s (by kernel_rfl) (fun _ _ h => h) fun a w s => ?_
  refine tail_end rfl ?_
  refine wpIn_seq ?_
  refine region_go 4 ((7, .s ((fUV (m) (k)).toSF)) :: (8, .s ((fLV (m) (d)).toSF)) :: (9, .s ((fQV (m) (k) (d)).toSF)) :: (10, .u (fQV (m) (k) (d))) :: []) hmix s (by kernel_rfl)
    (obs_cons (ok_ldW (f := fUV (m) (k)) 2 (by kernel_rfl) (hz := uv_len _ _)) <|
    obs_cons (ok_move) <|
    obs_cons (ok_build2 (fun u v W (hu : UV W m u k) (hv : LV W m v d) => b_ratV hu hv)) <|
    obs_cons (ok_build1 (fun u W (hu : QVp m k d u W) => b_numV hu)) <| obs_nil) fun a w2 s => ?_
  refine t_box (CU.agg (fQV (m) (k) (d))) rfl s (by kernel_rfl) (fun v W h => qv_box h) fun b11 a w s => ?_
  refine t_ren rfl s (by kernel_rfl) fun a w s => ?_
  refine tail_end rfl ?_
  refine wpIn_seq ?_
  refine wpIn_seq ?_
  refine region_go 1 ((12, .u (UF.eq (.pointer (some ⟨b11, 0, none⟩)))) :: []) hmix s (by kernel_rfl)
    (obs_cons (ok_move (fun _ _ _ h => h.1)) <| obs_nil) fun a w3 s => ?_
  refine t_callS1 (c := 6) (CU.agg (fQN (mkRat k d))) (fB false) rfl wide_wide en_92 s (by kernel_rfl) rfl rfl (fun _ _ h => h) (fun cs h1 h2 => ?_) fun a w s => ?_
  · exact (rnorm_any h1 h2 hm (hT.below s.gr.below)).mono fun e w' ⟨v, g1, g3, g2⟩ => ⟨v, g1, by rw [show v = _ from g3, hz]; rfl, g2⟩
  refine t_gd (UF.eq (.bool true)) rfl s (by kernel_rfl) (ok_not (false) (fun _ _ h => h) (fun _ => rfl)) (by kernel_rfl) fun a w s => ?_
  refine tail_end rfl ?_
  refine StS.cond s true (fun _ _ h => h) (fun e => ?_) (fun e => by cases e)
  refine wpIn_seq ?_
  replace s := s.drop [5]
  refine region_go 4 ((15, .s (SF.pb b11 (CU.agg (fQN (mkRat k d))).cf)) :: (16, .s (SF.ptr (CU.agg (fQN (mkRat k d))).cf)) :: (17, .s (SF.ptr ((CU.agg (fQN (mkRat k d))).cf.at 0))) :: (18, .u (fQN (mkRat k d))) :: []) hmix s (by kernel_rfl)
    (obs_cons (ok_move) <|
    obs_cons (ok_nil (C := (CU.agg (fQN (mkRat k d))).cf)) <|
    obs_cons (ok_fld (C := (CU.agg (fQN (mkRat k d))).cf) 0 (by kernel_rfl)) <|
    obs_cons (ok_ldA (C := (CU.agg (fQN (mkRat k d))).cf) (k := 0) 3 (by kernel_rfl) (h := qn_whole)) <| obs_nil) fun a w4 s => ?_
  refine t_store (CU.agg (fQN (mkRat k d))) ((fQN (mkRat k d)).toSF) rfl s (by kernel_rfl) rfl rfl rfl (fun _ _ h => h) (fun _ _ h => h) (qn_store) fun a w s => ?_
  refine t_set (UF.eq (.int .i64 (30))) rfl s (by kernel_rfl) (fun _ _ h => h) fun a w s => ?_
  refine tail_end rfl ?_
  refine wpIn_ret ?_
  exact StS.resCT s (CU.agg (fQN (mkRat k d))) rfl (by kernel_rfl) rfl rfl (qn_len _) (fun cs v W h1 h2 => ⟨_, _, rfl, h1, h2⟩)

set_option maxRecDepth 100000 in
theorem rNew_p {W : World} {m : Nat} {v v' : Value} {k : Int} {d : Nat} (h : UV W m v k) (h' : LV W m v' d) (hm : m ≤ 1000) (hT : Tab W) (hz : decide (0 < d) = true) : Calls Tryd.prog 61 #[v, v'] W (Ret W (fTup2 (fQN (mkRat k d)) (fI 0)).toSF) := by
  have hmix : Tryd.prog.follows .mixedOrders = true := by kernel_rfl
  have en_92 : Enters Tryd.prog 92 := enters_of Tryd.func92 (by kernel_rfl) rfl
  refine run_st [(fUV m k).toSF, (fLV m d).toSF] Tryd.func61 rfl (by kernel_rfl) ⟨h, h', trivial⟩ fun a s => ?_
  refine wpIn_seq ?_
  refine region_go 0 [] hmix s (by kernel_rfl)
    obs_nil fun a w1 s => ?_
  refine t_box (CU.agg (fUV (m) (k))) rfl s (by kernel_rfl) (fun v W h => uv_box h) fun b2 a w s => ?_
  refine t_alloc (CU.len 3) (cs := [.bool false, .slice none 0 0, .slice none 0 0]) (by kernel_rfl) rfl s (by kernel_rfl) (fun W => rfl) rfl fun b4 a w s => ?_
  refine t_set (UF.eq (.int .i64 (0))) rfl s (by kernel_rfl) (fun _ _ h => h) fun a w s => ?_
  refine tail_end rfl ?_
  refine wpIn_seq ?_
  refine region_go 4 ((7, .s ((fUV (m) (k)).toSF)) :: (8, .s ((fLV (m) (d)).toSF)) :: (9, .s ((fQV (m) (k) (d)).toSF)) :: (10, .u (fQV (m) (k) (d))) :: []) hmix s (by kernel_rfl)
    (obs_cons (ok_ldW (f := fUV (m) (k)) 2 (by kernel_rfl) (hz := uv_len _ _)) <|
    obs_cons (ok_move) <|
    obs_cons (ok_build2 (fun u v W (hu : UV W m u k) (hv : LV W m v d) => b_ratV hu hv)) <|
    obs_cons (ok_build1 (fun u W (hu : QVp m k d u W) => b_numV hu)) <| obs_nil) fun a w2 s => ?_
  refine t_box (CU.agg (fQV (m) (k) (d))) rfl s (by kernel_rfl) (fun v W h => qv_box h) fun b11 a w s => ?_
  refine t_ren rfl s (by kernel_rfl) fun a w s => ?_
  refine tail_end rfl ?_
  refine wpIn_seq ?_
  refine wpIn_seq ?_
  refine region_go 1 ((12, .u (UF.eq (.pointer (some ⟨b11, 0, none⟩)))) :: []) hmix s (by kernel_rfl)
    (obs_cons (ok_move (fun _ _ _ h => h.1)) <| obs_nil) fun a w3 s => ?_
  refine t_callS1 (c := 6) (CU.agg (fQN (mkRat k d))) (fB true) rfl wide_wide en_92 s (by kernel_rfl) rfl rfl (fun _ _ h => h) (fun cs h1 h2 => ?_) fun a w s => ?_
  · exact (rnorm_any h1 h2 hm (hT.below s.gr.below)).mono fun e w' ⟨v, g1, g3, g2⟩ => ⟨v, g1, by rw [show v = _ from g3, hz]; rfl, g2⟩
  refine t_gd (UF.eq (.bool false)) rfl s (by kernel_rfl) (ok_not (true) (fun _ _ h => h) (fun _ => rfl)) (by kernel_rfl) fun a w s => ?_
  refine tail_end rfl ?_
  refine StS.cond s false (fun _ _ h => h) (fun e => by cases e) (fun e => ?_)
  refine wpIn_skip ?_
  refine wpIn_seq ?_
  replace s := s.drop [5]
  refine region_go 4 ((19, .s (SF.pb b11 (CU.agg (fQN (mkRat k d))).cf)) :: (20, .s (SF.ptr (CU.agg (fQN (mkRat k d))).cf)) :: (21, .s (SF.ptr ((CU.agg (fQN (mkRat k d))).cf.at 0))) :: (22, .u (fQN (mkRat k d))) :: []) hmix s (by kernel_rfl)
    (obs_cons (ok_move) <|
    obs_cons (ok_nil (C := (CU.agg (fQN (mkRat k d))).cf)) <|
    obs_cons (ok_fld (C := (CU.agg (fQN (mkRat k d))).cf) 0 (by kernel_rfl)) <|
    obs_cons (ok_ldA (C := (CU.agg (fQN (mkRat k d))).cf) (k := 0) 3 (by kernel_rfl) (h := qn_whole)) <| obs_nil) fun a w4 s => ?_
  refine t_store (CU.agg (fQN (mkRat k d))) ((fQN (mkRat k d)).toSF) rfl s (by kernel_rfl) rfl rfl rfl (fun _ _ h => h) (fun _ _ h => h) (qn_store) fun a w s => ?_
  refine t_set (UF.eq (.int .i64 (0))) rfl s (by kernel_rfl) (fun _ _ h => h) fun a w s => ?_
  refine tail_end rfl ?_
  refine wpIn_ret ?_
  exact StS.resCT s (CU.agg (fQN (mkRat k d))) rfl (by kernel_rfl) rfl rfl (qn_len _) (fun cs v W h1 h2 => ⟨_, _, rfl, h1, h2⟩)

theorem rNew_v {W : World} {m : Nat} {v v' : Value} {k : Int} {d : Nat} (h : UV W m v k) (h' : LV W m v' d) (hm : m ≤ 1000) (hT : Tab W) : Calls Tryd.prog 61 #[v, v'] W (Ret W (fTup2 (fQN (mkRat k d)) (fI (if d = 0 then 30 else 0))).toSF) := by
  by_cases hd : d = 0
  · rw [if_pos hd]
    exact rNew_z h h' hm hT (decide_eq_false (by omega))
  · rw [if_neg hd]
    exact rNew_p h h' hm hT (decide_eq_true (by omega))

set_option maxRecDepth 100000 in
theorem rMid_q {W : World} {m : Nat} {v v' : Value} {q q' : Rat} (h : RVp m q v W) (h' : RVp m q' v' W) (hm : m ≤ 300) (hm0 : 0 < m) (hT : Tab W) : Calls Tryd.prog 41 #[v, v'] W (Ret W (fQN ((q + q') / 2)).toSF) := by
  have hmix : Tryd.prog.follows .mixedOrders = true := by kernel_rfl
  have hq : QB q m := h.qb hm0
  have hq' : QB q' m := h'.qb hm0
  have hbuild : ∀ u v W, NV W u (q + q').num → NatV W v ((q + q').den * 2) → ∃ cells, Tryd.prog.built 43 [(0, u), (1, v)] = some cells ∧ RVp (m + m + 2) ((q + q') / 2) (.agg cells) W := fun u v W hu hv => by
    have hs := hq.add hq'
    obtain ⟨cells, h1, h2⟩ := b_ratV (hu.uv' (hs.1.mono (by omega : m + m + 1 ≤ m + m + 2))) (hv.lv (m := m + m + 2) (by have := hs.2; rw [show m + m + 2 = (m + m + 1) + 1 from rfl, Nat.pow_succ]; exact Nat.mul_lt_mul_of_lt_of_le this (by unfold BB; omega) (by first | exact BB_pos | decide | (unfold BB; omega) | omega)))
    refine ⟨cells, h1, _, _, h2, ?_⟩
    rw [Rat.mkRat_eq_div, Rat.natCast_mul, Rat.div_def, Rat.inv_mul_rev, ← Rat.mul_assoc, Rat.mul_comm _ ((2 : Nat) : Rat)⁻¹, Rat.mul_assoc, ← Rat.div_def, ← Rat.mkRat_eq_div, Rat.mkRat_self, Rat.mul_comm, ← Rat.div_def]
    rfl
  have en_72 : Enters Tryd.prog 72 := enters_of Tryd.func72 (by kernel_rfl) rfl
  have en_40 : Enters Tryd.prog 40 := enters_of Tryd.func40 (by kernel_rfl) rfl
  have en_31 : Enters Tryd.prog 31 := enters_of Tryd.func31 (by kernel_rfl) rfl
  refine run_st [(fRV m q).toSF, (fRV m q').toSF] Tryd.func41 rfl (by kernel_rfl) ⟨h, h', trivial⟩ fun a s => ?_
  refine wpIn_seq ?_
  refine region_go 0 [] hmix s (by kernel_rfl)
    obs_nil fun a w1 s => ?_
  refine t_box (CU.agg (fRV (m) (q))) rfl s (by kernel_rfl) (fun v W h => rv_box h) fun b2 a w s => ?_
  refine t_box (CU.agg (fRV (m) (q'))) rfl s (by kernel_rfl) (fun v W h => rv_box h) fun b3 a w s => ?_
  refine t_alloc (CU.len 3) (cs := [.bool false, .slice none 0 0, .slice none 0 0]) (by kernel_rfl) rfl s (by kernel_rfl) (fun W => rfl) rfl fun b4 a w s => ?_
  refine tail_end rfl ?_
  refine wpIn_seq ?_
  refine region_go 4 ((6, .s ((fRV (m) (q)).toSF)) :: (7, .s ((fRV (m) (q')).toSF)) :: (8, .s (fQS m [q, q'])) :: (9, .u (fQN ((q + q')))) :: []) hmix s (by kernel_rfl)
    (obs_cons (ok_ldW (f := fRV (m) (q)) 3 (by kernel_rfl) (hz := rv_len _ _)) <|
    obs_cons (ok_ldW (f := fRV (m) (q')) 3 (by kernel_rfl) (hz := rv_len _ _)) <|
    obs_cons (ok_slice2 (fun u v W (hu : RVp (m) (q) u W) (hv : RVp (m) (q') v W) => sl_rat2 hu hv)) <|
    obs_cons (ok_call1 wide_wide en_40 (fun u0 W hb (h0 : (fQS m [q, q']).p u0 W) => radd2_w h0 hq hq' (by omega) (hT.below (s.up hb)))) <| obs_nil) fun a w2 s => ?_
  refine t_alloc (CU.len 3) (cs := [.bool false, .slice none 0 0, .slice none 0 0]) (by kernel_rfl) rfl s (by kernel_rfl) (fun W => rfl) rfl fun b5 a w s => ?_
  refine t_store (CU.agg (fQN ((q + q')))) ((fQN ((q + q'))).toSF) rfl s (by kernel_rfl) rfl rfl rfl (fun _ _ h => h) (fun _ _ h => h) (qn_store) fun a w s => ?_
  refine tail_end rfl ?_
  refine wpIn_seq ?_
  refine region_goP [] 7 ((10, .s (SF.ptr ((CU.agg (fQN ((q + q')))).cf.at 0))) :: (11, .s ((fNV (((q + q')).num)).toSF)) :: (12, .s (SF.ptr ((CU.agg (fQN ((q + q')))).cf.at 2))) :: (13, .s ((fNat (((q + q')).den)).toSF)) :: (14, .s ((fNat (((q + q')).den * 2)).toSF)) :: (15, .s ((fRV ((m + m + 2)) (((q + q') / 2))).toSF)) :: (16, .u (fQN (((q + q') / 2)))) :: []) hmix s (by kernel_rfl)
    (obs_cons (ok_fld (C := (CU.agg (fQN ((q + q')))).cf) 0 (by kernel_rfl)) <|
    obs_cons (ok_ldA (C := (CU.agg (fQN ((q + q')))).cf) (k := 0) 2 (by kernel_rfl) (h := qn_num)) <|
    obs_cons (ok_fld (C := (CU.agg (fQN ((q + q')))).cf) 2 (by kernel_rfl)) <|
    obs_cons (ok_ld (C := (CU.agg (fQN ((q + q')))).cf) (k := 2) (by kernel_rfl) (h := qn_den)) <|
    obs_cons (ok_call2 wide_wide en_72 (fun u0 u1 W hb (h0 : NatV W u0 (((q + q')).den)) (h1 : u1 = .int .i64 (1)) => by subst h1; exact up1_v (NatV.lv h0 (hq.add hq').2) (by omega))) <|
    obs_cons (ok_build2 (fun u v W (hu : NV W u ((q + q')).num) (hv : NatV W v (((q + q')).den * 2)) => hbuild u v W hu hv)) <|
    obs_cons (ok_call1 wide_wide en_31 (fun u0 W hb (h0 : RVp ((m + m + 2)) (((q + q') / 2)) u0 W) => rNorm_q h0 (by omega) (by omega) (hT.below (s.up hb)))) <| obs_nil) fun Q' hQ a w3 s => ?_
  refine t_store (CU.agg (fQN (((q + q') / 2)))) ((fQN (((q + q') / 2))).toSF) rfl s (by kernel_rfl) rfl rfl rfl (fun _ _ h => h) (fun _ _ h => h) (qn_store) fun a w s => ?_
  refine tail_end rfl (hQ _ _ ?_)
  refine wpIn_ret ?_
  exact StS.resC s (CU.agg (fQN ((q + q') / 2))) rfl (by kernel_rfl) rfl rfl (qn_len _) (fun cs W h => h)

set_option maxRecDepth 100000 in
theorem rFloor_a {W : World} {m : Nat} {v : Value} {q : Rat} (h : RVp m q v W) (hm : m ≤ 300) (hm0 : 0 < m) (hT : Tab W) (hs : decide (q.num < 0) = false) : Calls Tryd.prog 44 #[v] W (Ret W (fNV (q.num / (q.den : Int))).toSF) := by
  have hmix : Tryd.prog.follows .mixedOrders = true := by kernel_rfl
  have hq : QB q m := h.qb hm0
  have hsg : ∀ cs W, (CU.agg (fQN q)).p cs W → ∃ u, cs[0]? = some u ∧ u = .bool false := fun cs W h => by rw [← hs]; exact qn_neg cs W h
  have hN : ((q).num.natAbs / (q).den) < BB ^ m := Nat.lt_of_le_of_lt (Nat.div_le_self _ _) hq.1
  have hNm : ((q).num.natAbs / (q).den) < BB ^ (m + 1) := Nat.lt_of_lt_of_le hN (Nat.pow_le_pow_right BB_pos (by omega))
  have hF : ((q).num.natAbs / (q).den) < BB ^ (m + 1) := hNm
  have hbi : ∀ u v W, u = .bool false → NatV W v ((q).num.natAbs / (q).den) → ∃ cells, Tryd.prog.built 41 [(0, u), (1, v)] = some cells ∧ UV W (m + 1) (.agg cells) (q.num / (q.den : Int)) := fun u v W hu hv => by
    have := b_int hu hv hF
    rw [show (if false then -((((q).num.natAbs / (q).den) : Nat) : Int) else ((((q).num.natAbs / (q).den) : Nat) : Int)) = q.num / (q.den : Int) from floor_pos q hs] at this
    exact this
  have en_53 : Enters Tryd.prog 53 := enters_of Tryd.func53 (by kernel_rfl) rfl
  have en_65 : Enters Tryd.prog 65 := enters_of Tryd.func65 (by kernel_rfl) rfl
  have en_76 : Enters Tryd.prog 76 := enters_of Tryd.func76 (by kernel_rfl) rfl
  refine run_st [(fRV m q).toSF] Tryd.func44 rfl (by kernel_rfl) ⟨h, trivial⟩ fun a s => ?_
  refine wpIn_seq ?_
  refine region_go 0 [] hmix s (by kernel_rfl)
    obs_nil fun a w1 s => ?_
  refine t_box (CU.agg (fRV (m) (q))) rfl s (by kernel_rfl) (fun v W h => rv_box h) fun b1 a w s => ?_
  refine t_alloc (CU.len 2) (cs := [.bool false, .slice none 0 0]) (by kernel_rfl) rfl s (by kernel_rfl) (fun W => rfl) rfl fun b2 a w s => ?_
  refine tail_end rfl ?_
  refine wpIn_seq ?_
  have so := s.old; have sg := s.gr
  refine region_goN 3 ((7, .s ((fRV (m) (q)).toSF)) :: (8, .s (SF.newBox w 78 (CU.agg (fQN (q))))) :: (3, .s (SF.newBox w 78 (CU.agg (fQN (q))))) :: []) hmix s (by kernel_rfl)
    (obs_cons (ok_ldW (f := fRV (m) (q)) 3 (by kernel_rfl) (hz := rv_len _ _)) <|
    obs_cons (ok_call1 wide_wide en_65 (fun u0 W hb (h0 : RVp (m) (q) u0 W) => (rof_q h0 (by omega) (hT.below (s.up hb))).mono (Ret.to (newBox_old hb.size)))) <|
    obs_cons (ok_assign) <| obs_nil) fun a w2 s hr => ?_
  obtain ⟨b3, _, s⟩ := s.adopt true 3 (hr (_, _) (.tail _ (.tail _ (.head _)))) sg (fun y hy => .inl (so y hy))
  refine tail_end rfl ?_
  refine wpIn_seq ?_
  refine region_go 19 ((10, .s (SF.pb b3 (CU.agg (fQN (q))).cf)) :: (11, .s (SF.ptr (CU.agg (fQN (q))).cf)) :: (12, .s (SF.ptr ((CU.agg (fQN (q))).cf.at 0))) :: (13, .s (SF.ptr ((CU.agg (fQN (q))).cf.at 0))) :: (14, .s (SF.ptr ((CU.agg (fQN (q))).cf.at 1))) :: (15, .s ((fNat ((q).num.natAbs)).toSF)) :: (16, .s (SF.pb b3 (CU.agg (fQN (q))).cf)) :: (17, .s (SF.ptr (CU.agg (fQN (q))).cf)) :: (18, .s (SF.ptr ((CU.agg (fQN (q))).cf.at 0))) :: (19, .s (SF.ptr ((CU.agg (fQN (q))).cf.at 2))) :: (20, .s ((fNat ((q).den)).toSF)) :: (21, .s ((fTup3 (fNat (((q).num.natAbs / (q).den))) (fNat (((q).num.natAbs % (q).den))) (UF.eq (.int .i64 (0)))).toSF)) :: (9, .s ((fTup3 (fNat (((q).num.natAbs / (q).den))) (fNat (((q).num.natAbs % (q).den))) (UF.eq (.int .i64 (0)))).toSF)) :: (22, .s ((fNat (((q).num.natAbs / (q).den))).toSF)) :: (23, .s ((fNat (((q).num.natAbs % (q).den))).toSF)) :: (24, .s ((UF.eq (.int .i64 (0))).toSF)) :: (4, .u (fNat (((q).num.natAbs / (q).den)))) :: (5, .u (fNat (((q).num.natAbs % (q).den)))) :: (6, .s ((UF.eq (.int .i64 (0))).toSF)) :: []) hmix s (by kernel_rfl)
    (obs_cons (ok_move) <|
    obs_cons (ok_nil (C := (CU.agg (fQN (q))).cf)) <|
    obs_cons (ok_fld (C := (CU.agg (fQN (q))).cf) 0 (by kernel_rfl)) <|
    obs_cons (ok_fldn (C := (CU.agg (fQN (q))).cf) 0 0 (by kernel_rfl)) <|
    obs_cons (ok_fldn (C := (CU.agg (fQN (q))).cf) 0 1 (by kernel_rfl)) <|
    obs_cons (ok_ld (C := (CU.agg (fQN (q))).cf) (k := 1) (by kernel_rfl) (h := qn_abs)) <|
    obs_cons (ok_move) <|
    obs_cons (ok_nil (C := (CU.agg (fQN (q))).cf)) <|
    obs_cons (ok_fld (C := (CU.agg (fQN (q))).cf) 0 (by kernel_rfl)) <|
    obs_cons (ok_fldn (C := (CU.agg (fQN (q))).cf) 0 2 (by kernel_rfl)) <|
    obs_cons (ok_ld (C := (CU.agg (fQN (q))).cf) (k := 2) (by kernel_rfl) (h := qn_den)) <|
    obs_cons (ok_call2 wide_wide en_53 (fun u0 u1 W hb (h0 : NatV W u0 ((q).num.natAbs)) (h1 : NatV W u1 ((q).den)) => qdiv_v (NatV.lv h0 hq.1) (NatV.lv h1 hq.2) (by omega) q.den_pos)) <|
    obs_cons (ok_move) <|
    obs_cons (ok_ext30 (A := (fNat (((q).num.natAbs / (q).den))).toSF) (B := (fNat (((q).num.natAbs % (q).den))).toSF) (C := (UF.eq (.int .i64 (0))).toSF) (fun _ _ h => h)) <|
    obs_cons (ok_ext31 (A := (fNat (((q).num.natAbs / (q).den))).toSF) (B := (fNat (((q).num.natAbs % (q).den))).toSF) (C := (UF.eq (.int .i64 (0))).toSF) (fun _ _ h => h)) <|
    obs_cons (ok_ext32 (A := (fNat (((q).num.natAbs / (q).den))).toSF) (B := (fNat (((q).num.natAbs % (q).den))).toSF) (C := (UF.eq (.int .i64 (0))).toSF) (fun _ _ h => h)) <|
    obs_cons (ok_assign) <|
    obs_cons (ok_assign) <|
    obs_cons (ok_assign) <| obs_nil) fun a w3 s => ?_
  refine tail_end rfl ?_
  refine wpIn_seq ?_
  refine wpIn_seq ?_
  refine region_go 11 ((25, .s (SF.pb b3 (CU.agg (fQN (q))).cf)) :: (26, .s (SF.ptr (CU.agg (fQN (q))).cf)) :: (27, .s (SF.ptr ((CU.agg (fQN (q))).cf.at 0))) :: (28, .s (SF.ptr ((CU.agg (fQN (q))).cf.at 0))) :: (29, .s (SF.ptr ((CU.agg (fQN (q))).cf.at 0))) :: (30, .s ((UF.eq (.bool false)).toSF)) :: (31, .s ((UF.eq (.bool false)).toSF)) :: (35, .u (UF.eq (.bool false))) :: []) hmix s (by kernel_rfl)
    (obs_cons (ok_move) <|
    obs_cons (ok_nil (C := (CU.agg (fQN (q))).cf)) <|
    obs_cons (ok_fld (C := (CU.agg (fQN (q))).cf) 0 (by kernel_rfl)) <|
    obs_cons (ok_fldn (C := (CU.agg (fQN (q))).cf) 0 0 (by kernel_rfl)) <|
    obs_cons (ok_fldn (C := (CU.agg (fQN (q))).cf) 0 0 (by kernel_rfl)) <|
    obs_cons (ok_ld (C := (CU.agg (fQN (q))).cf) (k := 0) (by kernel_rfl) (h := fun cs W h => hsg cs W h)) <|
    obs_cons (ok_move) <|
    obs_cons (ok_guard 31 false (by kernel_rfl) (fun _ _ h => h) (fun e => by cases e) (fun _ _ => trivial)) <|
    obs_cons (ok_guard 31 false (by kernel_rfl) (fun _ _ h => h) (fun e => by cases e) (fun _ _ => trivial)) <|
    obs_cons (ok_guard 31 false (by kernel_rfl) (fun _ _ h => h) (fun e => by cases e) (fun _ _ => trivial)) <|
    obs_cons (ok_pick false (fun _ _ h => h) (fun e => by cases e) (fun _ _ _ h => h)) <| obs_nil) fun a w4 s => ?_
  refine tail_end rfl ?_
  refine StS.cond s false (fun _ _ h => h) (fun e => by cases e) (fun e => ?_)
  refine wpIn_skip ?_
  refine wpIn_seq ?_
  refine region_go 9 ((40, .s (SF.pb b3 (CU.agg (fQN (q))).cf)) :: (41, .s (SF.ptr (CU.agg (fQN (q))).cf)) :: (42, .s (SF.ptr ((CU.agg (fQN (q))).cf.at 0))) :: (43, .s (SF.ptr ((CU.agg (fQN (q))).cf.at 0))) :: (44, .s (SF.ptr ((CU.agg (fQN (q))).cf.at 0))) :: (45, .s ((UF.eq (.bool false)).toSF)) :: (46, .s ((fNat (((q).num.natAbs / (q).den))).toSF)) :: (47, .s ((fUV ((m + 1)) ((q.num / (q.den : Int)))).toSF)) :: (48, .u (fNV ((q.num / (q.den : Int))))) :: []) hmix s (by kernel_rfl)
    (obs_cons (ok_move) <|
    obs_cons (ok_nil (C := (CU.agg (fQN (q))).cf)) <|
    obs_cons (ok_fld (C := (CU.agg (fQN (q))).cf) 0 (by kernel_rfl)) <|
    obs_cons (ok_fldn (C := (CU.agg (fQN (q))).cf) 0 0 (by kernel_rfl)) <|
    obs_cons (ok_fldn (C := (CU.agg (fQN (q))).cf) 0 0 (by kernel_rfl)) <|
    obs_cons (ok_ld (C := (CU.agg (fQN (q))).cf) (k := 0) (by kernel_rfl) (h := fun cs W h => hsg cs W h)) <|
    obs_cons (ok_move) <|
    obs_cons (ok_build2 hbi) <|
    obs_cons (ok_call1 wide_wide en_76 (fun u0 W hb (h0 : UV W ((m + 1)) u0 ((q.num / (q.den : Int)))) => norm_v h0 (by omega))) <| obs_nil) fun a w5 s => ?_
  refine t_store (CU.agg (fNV ((q.num / (q.den : Int))))) ((fNV ((q.num / (q.den : Int)))).toSF) rfl s (by kernel_rfl) rfl rfl rfl (fun _ _ h => h) (fun _ _ h => h) (nv_store) fun a w s => ?_
  refine tail_end rfl ?_
  refine wpIn_ret ?_
  exact StS.resC s (CU.agg (fNV (q.num / (q.den : Int)))) rfl (by kernel_rfl) rfl rfl (nv_len _) (fun cs W h => h)

set_option maxRecDepth 100000 in
theorem rFloor_b {W : World} {m : Nat} {v : Value} {q : Rat} (h : RVp m q v W) (hm : m ≤ 300) (hm0 : 0 < m) (hT : Tab W) (hs : decide (q.num < 0) = true) (hrb : false = decide (0 < (q).num.natAbs % (q).den)) : Calls Tryd.prog 44 #[v] W (Ret W (fNV (q.num / (q.den : Int))).toSF) := by
  have hmix : Tryd.prog.follows .mixedOrders = true := by kernel_rfl
  have hq : QB q m := h.qb hm0
  have hsg : ∀ cs W, (CU.agg (fQN q)).p cs W → ∃ u, cs[0]? = some u ∧ u = .bool true := fun cs W h => by rw [← hs]; exact qn_neg cs W h
  have hN : ((q).num.natAbs / (q).den) < BB ^ m := Nat.lt_of_le_of_lt (Nat.div_le_self _ _) hq.1
  have hNm : ((q).num.natAbs / (q).den) < BB ^ (m + 1) := Nat.lt_of_lt_of_le hN (Nat.pow_le_pow_right BB_pos (by omega))
  have hF : ((q).num.natAbs / (q).den) < BB ^ (m + 1) := hNm
  have hbi : ∀ u v W, u = .bool true → NatV W v ((q).num.natAbs / (q).den) → ∃ cells, Tryd.prog.built 41 [(0, u), (1, v)] = some cells ∧ UV W (m + 1) (.agg cells) (q.num / (q.den : Int)) := fun u v W hu hv => by
    have := b_int hu hv hF
    rw [show (if true then -((((q).num.natAbs / (q).den) : Nat) : Int) else ((((q).num.natAbs / (q).den) : Nat) : Int)) = q.num / (q.den : Int) from floor_negE q hs hrb] at this
    exact this
  have en_53 : Enters Tryd.prog 53 := enters_of Tryd.func53 (by kernel_rfl) rfl
  have en_65 : Enters Tryd.prog 65 := enters_of Tryd.func65 (by kernel_rfl) rfl
  have en_76 : Enters Tryd.prog 76 := enters_of Tryd.func76 (by kernel_rfl) rfl
  refine run_st [(fRV m q).toSF] Tryd.func44 rfl (by kernel_rfl) ⟨h, trivial⟩ fun a s => ?_
  refine wpIn_seq ?_
  refine region_go 0 [] hmix s (by kernel_rfl)
    obs_nil fun a w1 s => ?_
  refine t_box (CU.agg (fRV (m) (q))) rfl s (by kernel_rfl) (fun v W h => rv_box h) fun b1 a w s => ?_
  refine t_alloc (CU.len 2) (cs := [.bool false, .slice none 0 0]) (by kernel_rfl) rfl s (by kernel_rfl) (fun W => rfl) rfl fun b2 a w s => ?_
  refine tail_end rfl ?_
  refine wpIn_seq ?_
  have so := s.old; have sg := s.gr
  refine region_goN 3 ((7, .s ((fRV (m) (q)).toSF)) :: (8, .s (SF.newBox w 78 (CU.agg (fQN (q))))) :: (3, .s (SF.newBox w 78 (CU.agg (fQN (q))))) :: []) hmix s (by kernel_rfl)
    (obs_cons (ok_ldW (f := fRV (m) (q)) 3 (by kernel_rfl) (hz := rv_len _ _)) <|
    obs_cons (ok_call1 wide_wide en_65 (fun u0 W hb (h0 : RVp (m) (q) u0 W) => (rof_q h0 (by omega) (hT.below (s.up hb))).mono (Ret.to (newBox_old hb.size)))) <|
    obs_cons (ok_assign) <| obs_nil) fun a w2 s hr => ?_
  obtain ⟨b3, _, s⟩ := s.adopt true 3 (hr (_, _) (.tail _ (.tail _ (.head _)))) sg (fun y hy => .inl (so y hy))
  refine tail_end rfl ?_
  refine wpIn_seq ?_
  refine region_go 19 ((10, .s (SF.pb b3 (CU.agg (fQN (q))).cf)) :: (11, .s (SF.ptr (CU.agg (fQN (q))).cf)) :: (12, .s (SF.ptr ((CU.agg (fQN (q))).cf.at 0))) :: (13, .s (SF.ptr ((CU.agg (fQN (q))).cf.at 0))) :: (14, .s (SF.ptr ((CU.agg (fQN (q))).cf.at 1))) :: (15, .s ((fNat ((q).num.natAbs)).toSF)) :: (16, .s (SF.pb b3 (CU.agg (fQN (q))).cf)) :: (17, .s (SF.ptr (CU.agg (fQN (q))).cf)) :: (18, .s (SF.ptr ((CU.agg (fQN (q))).cf.at 0))) :: (19, .s (SF.ptr ((CU.agg (fQN (q))).cf.at 2))) :: (20, .s ((fNat ((q).den)).toSF)) :: (21, .s ((fTup3 (fNat (((q).num.natAbs / (q).den))) (fNat (((q).num.natAbs % (q).den))) (UF.eq (.int .i64 (0)))).toSF)) :: (9, .s ((fTup3 (fNat (((q).num.natAbs / (q).den))) (fNat (((q).num.natAbs % (q).den))) (UF.eq (.int .i64 (0)))).toSF)) :: (22, .s ((fNat (((q).num.natAbs / (q).den))).toSF)) :: (23, .s ((fNat (((q).num.natAbs % (q).den))).toSF)) :: (24, .s ((UF.eq (.int .i64 (0))).toSF)) :: (4, .u (fNat (((q).num.natAbs / (q).den)))) :: (5, .u (fNat (((q).num.natAbs % (q).den)))) :: (6, .s ((UF.eq (.int .i64 (0))).toSF)) :: []) hmix s (by kernel_rfl)
    (obs_cons (ok_move) <|
    obs_cons (ok_nil (C := (CU.agg (fQN (q))).cf)) <|
    obs_cons (ok_fld (C := (CU.agg (fQN (q))).cf) 0 (by kernel_rfl)) <|
    obs_cons (ok_fldn (C := (CU.agg (fQN (q))).cf) 0 0 (by kernel_rfl)) <|
    obs_cons (ok_fldn (C := (CU.agg (fQN (q))).cf) 0 1 (by kernel_rfl)) <|
    obs_cons (ok_ld (C := (CU.agg (fQN (q))).cf) (k := 1) (by kernel_rfl) (h := qn_abs)) <|
    obs_cons (ok_move) <|
    obs_cons (ok_nil (C := (CU.agg (fQN (q))).cf)) <|
    obs_cons (ok_fld (C := (CU.agg (fQN (q))).cf) 0 (by kernel_rfl)) <|
    obs_cons (ok_fldn (C := (CU.agg (fQN (q))).cf) 0 2 (by kernel_rfl)) <|
    obs_cons (ok_ld (C := (CU.agg (fQN (q))).cf) (k := 2) (by kernel_rfl) (h := qn_den)) <|
    obs_cons (ok_call2 wide_wide en_53 (fun u0 u1 W hb (h0 : NatV W u0 ((q).num.natAbs)) (h1 : NatV W u1 ((q).den)) => qdiv_v (NatV.lv h0 hq.1) (NatV.lv h1 hq.2) (by omega) q.den_pos)) <|
    obs_cons (ok_move) <|
    obs_cons (ok_ext30 (A := (fNat (((q).num.natAbs / (q).den))).toSF) (B := (fNat (((q).num.natAbs % (q).den))).toSF) (C := (UF.eq (.int .i64 (0))).toSF) (fun _ _ h => h)) <|
    obs_cons (ok_ext31 (A := (fNat (((q).num.natAbs / (q).den))).toSF) (B := (fNat (((q).num.natAbs % (q).den))).toSF) (C := (UF.eq (.int .i64 (0))).toSF) (fun _ _ h => h)) <|
    obs_cons (ok_ext32 (A := (fNat (((q).num.natAbs / (q).den))).toSF) (B := (fNat (((q).num.natAbs % (q).den))).toSF) (C := (UF.eq (.int .i64 (0))).toSF) (fun _ _ h => h)) <|
    obs_cons (ok_assign) <|
    obs_cons (ok_assign) <|
    obs_cons (ok_assign) <| obs_nil) fun a w3 s => ?_
  refine tail_end rfl ?_
  refine wpIn_seq ?_
  refine wpIn_seq ?_
  refine region_go 11 ((25, .s (SF.pb b3 (CU.agg (fQN (q))).cf)) :: (26, .s (SF.ptr (CU.agg (fQN (q))).cf)) :: (27, .s (SF.ptr ((CU.agg (fQN (q))).cf.at 0))) :: (28, .s (SF.ptr ((CU.agg (fQN (q))).cf.at 0))) :: (29, .s (SF.ptr ((CU.agg (fQN (q))).cf.at 0))) :: (30, .s ((UF.eq (.bool true)).toSF)) :: (31, .s ((UF.eq (.bool true)).toSF)) :: (32, .s ((fNat (((q).num.natAbs % (q).den))).toSF)) :: (33, .s (fLen ((q).num.natAbs % (q).den))) :: (34, .s ((UF.eq (.bool false)).toSF)) :: (35, .u (UF.eq (.bool false))) :: []) hmix s (by kernel_rfl)
    (obs_cons (ok_move) <|
    obs_cons (ok_nil (C := (CU.agg (fQN (q))).cf)) <|
    obs_cons (ok_fld (C := (CU.agg (fQN (q))).cf) 0 (by kernel_rfl)) <|
    obs_cons (ok_fldn (C := (CU.agg (fQN (q))).cf) 0 0 (by kernel_rfl)) <|
    obs_cons (ok_fldn (C := (CU.agg (fQN (q))).cf) 0 0 (by kernel_rfl)) <|
    obs_cons (ok_ld (C := (CU.agg (fQN (q))).cf) (k := 0) (by kernel_rfl) (h := fun cs W h => hsg cs W h)) <|
    obs_cons (ok_move) <|
    obs_cons (ok_guard 31 true (by kernel_rfl) (fun _ _ h => h) (fun _ => ok_move) (fun e => absurd rfl e)) <|
    obs_cons (ok_guard 31 true (by kernel_rfl) (fun _ _ h => h) (fun _ => ok_lenN (by kernel_rfl) (fun _ _ h => h)) (fun e => absurd rfl e)) <|
    obs_cons (ok_guard 31 true (by kernel_rfl) (fun _ _ h => h) (fun _ => ok_gtr0 hrb) (fun e => absurd rfl e)) <|
    obs_cons (ok_pick true (fun _ _ h => h) (fun _ _ _ h => h) (fun e => by cases e)) <| obs_nil) fun a w4 s => ?_
  refine tail_end rfl ?_
  refine StS.cond s false (fun _ _ h => h) (fun e => by cases e) (fun e => ?_)
  refine wpIn_skip ?_
  refine wpIn_seq ?_
  refine region_go 9 ((40, .s (SF.pb b3 (CU.agg (fQN (q))).cf)) :: (41, .s (SF.ptr (CU.agg (fQN (q))).cf)) :: (42, .s (SF.ptr ((CU.agg (fQN (q))).cf.at 0))) :: (43, .s (SF.ptr ((CU.agg (fQN (q))).cf.at 0))) :: (44, .s (SF.ptr ((CU.agg (fQN (q))).cf.at 0))) :: (45, .s ((UF.eq (.bool true)).toSF)) :: (46, .s ((fNat (((q).num.natAbs / (q).den))).toSF)) :: (47, .s ((fUV ((m + 1)) ((q.num / (q.den : Int)))).toSF)) :: (48, .u (fNV ((q.num / (q.den : Int))))) :: []) hmix s (by kernel_rfl)
    (obs_cons (ok_move) <|
    obs_cons (ok_nil (C := (CU.agg (fQN (q))).cf)) <|
    obs_cons (ok_fld (C := (CU.agg (fQN (q))).cf) 0 (by kernel_rfl)) <|
    obs_cons (ok_fldn (C := (CU.agg (fQN (q))).cf) 0 0 (by kernel_rfl)) <|
    obs_cons (ok_fldn (C := (CU.agg (fQN (q))).cf) 0 0 (by kernel_rfl)) <|
    obs_cons (ok_ld (C := (CU.agg (fQN (q))).cf) (k := 0) (by kernel_rfl) (h := fun cs W h => hsg cs W h)) <|
    obs_cons (ok_move) <|
    obs_cons (ok_build2 hbi) <|
    obs_cons (ok_call1 wide_wide en_76 (fun u0 W hb (h0 : UV W ((m + 1)) u0 ((q.num / (q.den : Int)))) => norm_v h0 (by omega))) <| obs_nil) fun a w5 s => ?_
  refine t_store (CU.agg (fNV ((q.num / (q.den : Int))))) ((fNV ((q.num / (q.den : Int)))).toSF) rfl s (by kernel_rfl) rfl rfl rfl (fun _ _ h => h) (fun _ _ h => h) (nv_store) fun a w s => ?_
  refine tail_end rfl ?_
  refine wpIn_ret ?_
  exact StS.resC s (CU.agg (fNV (q.num / (q.den : Int)))) rfl (by kernel_rfl) rfl rfl (nv_len _) (fun cs W h => h)

set_option maxRecDepth 100000 in
theorem rFloor_c {W : World} {m : Nat} {v : Value} {q : Rat} (h : RVp m q v W) (hm : m ≤ 300) (hm0 : 0 < m) (hT : Tab W) (hs : decide (q.num < 0) = true) (hrb : true = decide (0 < (q).num.natAbs % (q).den)) : Calls Tryd.prog 44 #[v] W (Ret W (fNV (q.num / (q.den : Int))).toSF) := by
  have hmix : Tryd.prog.follows .mixedOrders = true := by kernel_rfl
  have hq : QB q m := h.qb hm0
  have hsg : ∀ cs W, (CU.agg (fQN q)).p cs W → ∃ u, cs[0]? = some u ∧ u = .bool true := fun cs W h => by rw [← hs]; exact qn_neg cs W h
  have hN : ((q).num.natAbs / (q).den) < BB ^ m := Nat.lt_of_le_of_lt (Nat.div_le_self _ _) hq.1
  have hNm : ((q).num.natAbs / (q).den) < BB ^ (m + 1) := Nat.lt_of_lt_of_le hN (Nat.pow_le_pow_right BB_pos (by omega))
  have hF : (((q).num.natAbs / (q).den) + 1) < BB ^ (m + 1) := by have hp := Nat.pow_pos (n := m) BB_pos; rw [Nat.pow_succ]; unfold BB at *; omega
  have hbi : ∀ u v W, u = .bool true → NatV W v (((q).num.natAbs / (q).den) + 1) → ∃ cells, Tryd.prog.built 41 [(0, u), (1, v)] = some cells ∧ UV W (m + 1) (.agg cells) (q.num / (q.den : Int)) := fun u v W hu hv => by
    have := b_int hu hv hF
    rw [show (if true then -(((((q).num.natAbs / (q).den) + 1) : Nat) : Int) else (((((q).num.natAbs / (q).den) + 1) : Nat) : Int)) = q.num / (q.den : Int) from floor_negL q hs hrb] at this
    exact this
  have en_75 : Enters Tryd.prog 75 := enters_of Tryd.func75 (by kernel_rfl) rfl
  have en_53 : Enters Tryd.prog 53 := enters_of Tryd.func53 (by kernel_rfl) rfl
  have en_65 : Enters Tryd.prog 65 := enters_of Tryd.func65 (by kernel_rfl) rfl
  have en_76 : Enters Tryd.prog 76 := enters_of Tryd.func76 (by kernel_rfl) rfl
  refine run_st [(fRV m q).toSF] Tryd.func44 rfl (by kernel_rfl) ⟨h, trivial⟩ fun a s => ?_
  refine wpIn_seq ?_
  refine region_go 0 [] hmix s (by kernel_rfl)
    obs_nil fun a w1 s => ?_
  refine t_box (CU.agg (fRV (m) (q))) rfl s (by kernel_rfl) (fun v W h => rv_box h) fun b1 a w s => ?_
  refine t_alloc (CU.len 2) (cs := [.bool false, .slice none 0 0]) (by kernel_rfl) rfl s (by kernel_rfl) (fun W => rfl) rfl fun b2 a w s => ?_
  refine tail_end rfl ?_
  refine wpIn_seq ?_
  have so := s.old; have sg := s.gr
  refine region_goN 3 ((7, .s ((fRV (m) (q)).toSF)) :: (8, .s (SF.newBox w 78 (CU.agg (fQN (q))))) :: (3, .s (SF.newBox w 78 (CU.agg (fQN (q))))) :: []) hmix s (by kernel_rfl)
    (obs_cons (ok_ldW (f := fRV (m) (q)) 3 (by kernel_rfl) (hz := rv_len _ _)) <|
    obs_cons (ok_call1 wide_wide en_65 (fun u0 W hb (h0 : RVp (m) (q) u0 W) => (rof_q h0 (by omega) (hT.below (s.up hb))).mono (Ret.to (newBox_old hb.size)))) <|
    obs_cons (ok_assign) <| obs_nil) fun a w2 s hr => ?_
  obtain ⟨b3, _, s⟩ := s.adopt true 3 (hr (_, _) (.tail _ (.tail _ (.head _)))) sg (fun y hy => .inl (so y hy))
  refine tail_end rfl ?_
  refine wpIn_seq ?_
  refine region_go 19 ((10, .s (SF.pb b3 (CU.agg (fQN (q))).cf)) :: (11, .s (SF.ptr (CU.agg (fQN (q))).cf)) :: (12, .s (SF.ptr ((CU.agg (fQN (q))).cf.at 0))) :: (13, .s (SF.ptr ((CU.agg (fQN (q))).cf.at 0))) :: (14, .s (SF.ptr ((CU.agg (fQN (q))).cf.at 1))) :: (15, .s ((fNat ((q).num.natAbs)).toSF)) :: (16, .s (SF.pb b3 (CU.agg (fQN (q))).cf)) :: (17, .s (SF.ptr (CU.agg (fQN (q))).cf)) :: (18, .s (SF.ptr ((CU.agg (fQN (q))).cf.at 0))) :: (19, .s (SF.ptr ((CU.agg (fQN (q))).cf.at 2))) :: (20, .s ((fNat ((q).den)).toSF)) :: (21, .s ((fTup3 (fNat (((q).num.natAbs / (q).den))) (fNat (((q).num.natAbs % (q).den))) (UF.eq (.int .i64 (0)))).toSF)) :: (9, .s ((fTup3 (fNat (((q).num.natAbs / (q).den))) (fNat (((q).num.natAbs % (q).den))) (UF.eq (.int .i64 (0)))).toSF)) :: (22, .s ((fNat (((q).num.natAbs / (q).den))).toSF)) :: (23, .s ((fNat (((q).num.natAbs % (q).den))).toSF)) :: (24, .s ((UF.eq (.int .i64 (0))).toSF)) :: (4, .u (fNat (((q).num.natAbs / (q).den)))) :: (5, .u (fNat (((q).num.natAbs % (q).den)))) :: (6, .s ((UF.eq (.int .i64 (0))).toSF)) :: []) hmix s (by kernel_rfl)
    (obs_cons (ok_move) <|
    obs_cons (ok_nil (C := (CU.agg (fQN (q))).cf)) <|
    obs_cons (ok_fld (C := (CU.agg (fQN (q))).cf) 0 (by kernel_rfl)) <|
    obs_cons (ok_fldn (C := (CU.agg (fQN (q))).cf) 0 0 (by kernel_rfl)) <|
    obs_cons (ok_fldn (C := (CU.agg (fQN (q))).cf) 0 1 (by kernel_rfl)) <|
    obs_cons (ok_ld (C := (CU.agg (fQN (q))).cf) (k := 1) (by kernel_rfl) (h := qn_abs)) <|
    obs_cons (ok_move) <|
    obs_cons (ok_nil (C := (CU.agg (fQN (q))).cf)) <|
    obs_cons (ok_fld (C := (CU.agg (fQN (q))).cf) 0 (by kernel_rfl)) <|
    obs_cons (ok_fldn (C := (CU.agg (fQN (q))).cf) 0 2 (by kernel_rfl)) <|
    obs_cons (ok_ld (C := (CU.agg (fQN (q))).cf) (k := 2) (by kernel_rfl) (h := qn_den)) <|
    obs_cons (ok_call2 wide_wide en_53 (fun u0 u1 W hb (h0 : NatV W u0 ((q).num.natAbs)) (h1 : NatV W u1 ((q).den)) => qdiv_v (NatV.lv h0 hq.1) (NatV.lv h1 hq.2) (by omega) q.den_pos)) <|
    obs_cons (ok_move) <|
    obs_cons (ok_ext30 (A := (fNat (((q).num.natAbs / (q).den))).toSF) (B := (fNat (((q).num.natAbs % (q).den))).toSF) (C := (UF.eq (.int .i64 (0))).toSF) (fun _ _ h => h)) <|
    obs_cons (ok_ext31 (A := (fNat (((q).num.natAbs / (q).den))).toSF) (B := (fNat (((q).num.natAbs % (q).den))).toSF) (C := (UF.eq (.int .i64 (0))).toSF) (fun _ _ h => h)) <|
    obs_cons (ok_ext32 (A := (fNat (((q).num.natAbs / (q).den))).toSF) (B := (fNat (((q).num.natAbs % (q).den))).toSF) (C := (UF.eq (.int .i64 (0))).toSF) (fun _ _ h => h)) <|
    obs_cons (ok_assign) <|
    obs_cons (ok_assign) <|
    obs_cons (ok_assign) <| obs_nil) fun a w3 s => ?_
  refine tail_end rfl ?_
  refine wpIn_seq ?_
  refine wpIn_seq ?_
  refine region_go 11 ((25, .s (SF.pb b3 (CU.agg (fQN (q))).cf)) :: (26, .s (SF.ptr (CU.agg (fQN (q))).cf)) :: (27, .s (SF.ptr ((CU.agg (fQN (q))).cf.at 0))) :: (28, .s (SF.ptr ((CU.agg (fQN (q))).cf.at 0))) :: (29, .s (SF.ptr ((CU.agg (fQN (q))).cf.at 0))) :: (30, .s ((UF.eq (.bool true)).toSF)) :: (31, .s ((UF.eq (.bool true)).toSF)) :: (32, .s ((fNat (((q).num.natAbs % (q).den))).toSF)) :: (33, .s (fLen ((q).num.natAbs % (q).den))) :: (34, .s ((UF.eq (.bool true)).toSF)) :: (35, .u (UF.eq (.bool true))) :: []) hmix s (by kernel_rfl)
    (obs_cons (ok_move) <|
    obs_cons (ok_nil (C := (CU.agg (fQN (q))).cf)) <|
    obs_cons (ok_fld (C := (CU.agg (fQN (q))).cf) 0 (by kernel_rfl)) <|
    obs_cons (ok_fldn (C := (CU.agg (fQN (q))).cf) 0 0 (by kernel_rfl)) <|
    obs_cons (ok_fldn (C := (CU.agg (fQN (q))).cf) 0 0 (by kernel_rfl)) <|
    obs_cons (ok_ld (C := (CU.agg (fQN (q))).cf) (k := 0) (by kernel_rfl) (h := fun cs W h => hsg cs W h)) <|
    obs_cons (ok_move) <|
    obs_cons (ok_guard 31 true (by kernel_rfl) (fun _ _ h => h) (fun _ => ok_move) (fun e => absurd rfl e)) <|
    obs_cons (ok_guard 31 true (by kernel_rfl) (fun _ _ h => h) (fun _ => ok_lenN (by kernel_rfl) (fun _ _ h => h)) (fun e => absurd rfl e)) <|
    obs_cons (ok_guard 31 true (by kernel_rfl) (fun _ _ h => h) (fun _ => ok_gtr0 hrb) (fun e => absurd rfl e)) <|
    obs_cons (ok_pick true (fun _ _ h => h) (fun _ _ _ h => h) (fun e => by cases e)) <| obs_nil) fun a w4 s => ?_
  refine tail_end rfl ?_
  refine StS.cond s true (fun _ _ h => h) (fun e => ?_) (fun e => by cases e)
  refine region_goS 4 ((36, .s ((fNat (((q).num.natAbs / (q).den))).toSF)) :: (37, .s ((fNat (1)).toSF)) :: (38, .s (fNS (m + 1) [((q).num.natAbs / (q).den), 1])) :: (39, .u (fNat ((((q).num.natAbs / (q).den) + 1)))) :: []) s (by kernel_rfl)
    (obs_cons (ok_move) <|
    obs_cons (ok_slice1 (fun u W (hu : u = .int .u32 1) => sl_one hu)) <|
    obs_cons (ok_slice2 (fun u v W (hu : NatV W u ((q).num.natAbs / (q).den)) (hv : NatV W v 1) => sl_nat2 (NatV.lv hu hNm) (NatV.lv hv (one_lt_BB (by omega))))) <|
    obs_cons (ok_call1 wide_wide en_75 (fun u0 W hb (h0 : (fNS (m + 1) [((q).num.natAbs / (q).den), 1]).p u0 W) => nadd2_v h0 (by omega))) <| obs_nil) fun a w5 s => ?_
  replace s := s.drop [4]
  refine t_set (fNat ((((q).num.natAbs / (q).den) + 1))) rfl s (by kernel_rfl) (fun _ _ h => h) fun a w s => ?_
  refine tail_end rfl ?_
  refine wpIn_seq ?_
  refine region_go 9 ((40, .s (SF.pb b3 (CU.agg (fQN (q))).cf)) :: (41, .s (SF.ptr (CU.agg (fQN (q))).cf)) :: (42, .s (SF.ptr ((CU.agg (fQN (q))).cf.at 0))) :: (43, .s (SF.ptr ((CU.agg (fQN (q))).cf.at 0))) :: (44, .s (SF.ptr ((CU.agg (fQN (q))).cf.at 0))) :: (45, .s ((UF.eq (.bool true)).toSF)) :: (46, .s ((fNat ((((q).num.natAbs / (q).den) + 1))).toSF)) :: (47, .s ((fUV ((m + 1)) ((q.num / (q.den : Int)))).toSF)) :: (48, .u (fNV ((q.num / (q.den : Int))))) :: []) hmix s (by kernel_rfl)
    (obs_cons (ok_move) <|
    obs_cons (ok_nil (C := (CU.agg (fQN (q))).cf)) <|
    obs_cons (ok_fld (C := (CU.agg (fQN (q))).cf) 0 (by kernel_rfl)) <|
    obs_cons (ok_fldn (C := (CU.agg (fQN (q))).cf) 0 0 (by kernel_rfl)) <|
    obs_cons (ok_fldn (C := (CU.agg (fQN (q))).cf) 0 0 (by kernel_rfl)) <|
    obs_cons (ok_ld (C := (CU.agg (fQN (q))).cf) (k := 0) (by kernel_rfl) (h := fun cs W h => hsg cs W h)) <|
    obs_cons (ok_move) <|
    obs_cons (ok_build2 hbi) <|
    obs_cons (ok_call1 wide_wide en_76 (fun u0 W hb (h0 : UV W ((m + 1)) u0 ((q.num / (q.den : Int)))) => norm_v h0 (by omega))) <| obs_nil) fun a w6 s => ?_
  refine t_store (CU.agg (fNV ((q.num / (q.den : Int))))) ((fNV ((q.num / (q.den : Int)))).toSF) rfl s (by kernel_rfl) rfl rfl rfl (fun _ _ h => h) (fun _ _ h => h) (nv_store) fun a w s => ?_
  refine tail_end rfl ?_
  refine wpIn_ret ?_
  exact StS.resC s (CU.agg (fNV (q.num / (q.den : Int)))) rfl (by kernel_rfl) rfl rfl (nv_len _) (fun cs W h => h)

theorem rFloor_q {W : World} {m : Nat} {v : Value} {q : Rat} (h : RVp m q v W) (hm : m ≤ 300) (hm0 : 0 < m) (hT : Tab W) : Calls Tryd.prog 44 #[v] W (Ret W (fNV (q.num / (q.den : Int))).toSF) := by
  cases hs : decide (q.num < 0)
  · exact rFloor_a h hm hm0 hT hs
  · cases hr : decide (0 < q.num.natAbs % q.den)
    · exact rFloor_b h hm hm0 hT hs hr.symm
    · exact rFloor_c h hm hm0 hT hs hr.symm

end Go.Proofs.Wd


namespace Go.Proofs.Wd
open Go.RowKit Lb

theorem r5told_t {W : World} {v v' : Value} {k : Int} (h : NV W v k) (h' : NV W v' k) : Calls Tryd.prog 32 #[v, v'] W (Ret W (fB true).toSF) := by
  obtain ⟨A, n, c, l, rfl, h1, h2⟩ := h
  obtain ⟨A', n', c', l', rfl, h1', h2'⟩ := h'
  refine (r5told_any _ A n c l _ A' n' c' l' W h2 h2').mono fun e w' ⟨e1, hb⟩ => ⟨_, e1, ?_, hb⟩
  rw [h1.inj h1']
  simp [fB, UF.eq, UF.mk']
theorem r1same_t {W : World} {v v' : Value} {x : Nat} (h : NatV W v x) (h' : NatV W v' x) : Calls Tryd.prog 35 #[v, v'] W (Ret W (fB true).toSF) := by
  obtain ⟨A, n, c, l, rfl, h1, h2⟩ := h
  obtain ⟨A', n', c', l', rfl, h1', h2'⟩ := h'
  refine (rsame_any A n c l A' n' c' l' W h2 h2').mono fun e w' ⟨e1, nq, hw⟩ => ⟨_, e1, ?_, ?_⟩
  · rw [h1.inj h1']
    simp [fB, UF.eq, UF.mk']
  · subst hw
    exact below_dn nq
/-- A rational, just so long. -/
def UVx (n : Nat) (k : Int) (v : Value) (w : World) : Prop := ∃ s A c l, v = .agg #[.bool s, .slice A n c] ∧ Rd w A n c l ∧ Lt l ∧ iv s l = k
def LVx (n x : Nat) (v : Value) (w : World) : Prop := ∃ A c l, v = .slice A n c ∧ Rd w A n c l ∧ Lt l ∧ val l = x
def QXp (n n' : Nat) (k : Int) (d : Nat) (v : Value) (w : World) : Prop := ∃ b s t, v = .agg #[b, s, t] ∧ UVx n k (.agg #[b, s]) w ∧ LVx n' d t w
def fQX (n n' : Nat) (k : Int) (d : Nat) : UF := .mk' (QXp n n' k d) fun _ _ _ ⟨b, s, t, e, ⟨sg, A, c, l, e1, h1, h2⟩, A', c', l', e2, h1', h2'⟩ u => ⟨b, s, t, e, ⟨sg, A, c, l, e1, h1.keepU u, h2⟩, A', c', l', e2, h1'.keepU u, h2'⟩
theorem qx_qv {n n' m : Nat} {k : Int} {d : Nat} {v : Value} {W : World} (h : QXp n n' k d v W) (h1 : n ≤ m) (h2 : n' ≤ m) : QVp m k d v W := by
  obtain ⟨b, s, t, e, ⟨sg, A, c, l, e1, g1, g2, g3⟩, A', c', l', e2, g1', g2', g3'⟩ := h
  exact ⟨b, s, t, e, ⟨sg, A, n, c, l, e1, g1, g2, h1, g3⟩, A', n', c', l', e2, g1', g2', h2, g3'⟩
theorem qx_abs {n n' : Nat} {k : Int} {d : Nat} (cs : List Value) (W : World) (h : (CU.agg (fQX n n' k d)).p cs W) : ∃ u, cs[1]? = some u ∧ ∃ A c, u = .slice A n c := by
  obtain ⟨b, s, t, e, ⟨sg, A, c, l, e1, _⟩, _⟩ := h
  rw [cells3 e]
  have := congrArg Array.toList (agg_inj e1)
  simp at this
  exact ⟨s, rfl, A, c, this.2⟩
theorem qx_den {n n' : Nat} {k : Int} {d : Nat} (cs : List Value) (W : World) (h : (CU.agg (fQX n n' k d)).p cs W) : ∃ u, cs[2]? = some u ∧ ∃ A c, u = .slice A n' c := by
  obtain ⟨b, s, t, e, _, A, c, l, e1, _⟩ := h
  rw [cells3 e]
  exact ⟨t, rfl, A, c, e1⟩
theorem qx_len (n n' : Nat) (k : Int) (d : Nat) : ∀ cs : List Value, ∀ W, (fQX n n' k d).p (.agg cs.toArray) W → cs.length = 3 := fun cs W ⟨b, s, t, e, _⟩ => by rw [cells3 e]; rfl
/-- A slice of this length. -/
def fSl (n : Nat) : UF := .mk' (fun v _ => ∃ A c, v = .slice A n c) fun _ _ _ h _ => h

set_option maxRecDepth 100000 in
theorem r7told_t {W : World} {v v' : Value} {q : Rat} (h : QNp q v W) (h' : QNp q v' W) : Calls Tryd.prog 64 #[v, v'] W (Ret W (fB true).toSF) := by
  have hmix : Tryd.prog.follows .mixedOrders = true := by kernel_rfl
  have en_35 : Enters Tryd.prog 35 := enters_of Tryd.func35 (by kernel_rfl) rfl
  have en_32 : Enters Tryd.prog 32 := enters_of Tryd.func32 (by kernel_rfl) rfl
  refine run_st [(fQN q).toSF, (fQN q).toSF] Tryd.func64 rfl (by kernel_rfl) ⟨h, h', trivial⟩ fun a s => ?_
  refine wpIn_seq ?_
  refine region_go 0 [] hmix s (by kernel_rfl)
    obs_nil fun a w1 s => ?_
  refine t_box (CU.agg (fQN (q))) rfl s (by kernel_rfl) (fun v W h => qn_box h) fun b2 a w s => ?_
  refine t_box (CU.agg (fQN (q))) rfl s (by kernel_rfl) (fun v W h => qn_box h) fun b3 a w s => ?_
  refine t_set (UF.eq (.bool false)) rfl s (by kernel_rfl) (fun _ _ h => h) fun a w s => ?_
  refine tail_end rfl ?_
  refine wpIn_seq ?_
  replace s := s.drop [4]
  refine region_go 13 ((5, .s (SF.ptr ((CU.agg (fQN (q))).cf.at 0))) :: (6, .s ((fNV ((q).num)).toSF)) :: (7, .s (SF.ptr ((CU.agg (fQN (q))).cf.at 0))) :: (8, .s ((fNV ((q).num)).toSF)) :: (9, .s ((UF.eq (.bool true)).toSF)) :: (10, .s ((UF.eq (.bool true)).toSF)) :: (11, .s (SF.ptr ((CU.agg (fQN (q))).cf.at 2))) :: (12, .s ((fNat ((q).den)).toSF)) :: (13, .s (SF.ptr ((CU.agg (fQN (q))).cf.at 2))) :: (14, .s ((fNat ((q).den)).toSF)) :: (15, .s ((UF.eq (.bool true)).toSF)) :: (16, .s ((UF.eq (.bool true)).toSF)) :: (4, .u (UF.eq (.bool true))) :: []) hmix s (by kernel_rfl)
    (obs_cons (ok_fld (C := (CU.agg (fQN (q))).cf) 0 (by kernel_rfl)) <|
    obs_cons (ok_ldA (C := (CU.agg (fQN (q))).cf) (k := 0) 2 (by kernel_rfl) (h := qn_num)) <|
    obs_cons (ok_fld (C := (CU.agg (fQN (q))).cf) 0 (by kernel_rfl)) <|
    obs_cons (ok_ldA (C := (CU.agg (fQN (q))).cf) (k := 0) 2 (by kernel_rfl) (h := qn_num)) <|
    obs_cons (ok_call2 wide_wide en_32 (fun u0 u1 W hb (h0 : NV W u0 ((q).num)) (h1 : NV W u1 ((q).num)) => r5told_t h0 h1)) <|
    obs_cons (ok_move) <|
    obs_cons (ok_guard 10 true (by kernel_rfl) (fun _ _ h => h) (fun _ => ok_fld (C := (CU.agg (fQN (q))).cf) 2 (by kernel_rfl)) (fun e => absurd rfl e)) <|
    obs_cons (ok_guard 10 true (by kernel_rfl) (fun _ _ h => h) (fun _ => ok_ld (C := (CU.agg (fQN (q))).cf) (k := 2) (by kernel_rfl) (h := qn_den)) (fun e => absurd rfl e)) <|
    obs_cons (ok_guard 10 true (by kernel_rfl) (fun _ _ h => h) (fun _ => ok_fld (C := (CU.agg (fQN (q))).cf) 2 (by kernel_rfl)) (fun e => absurd rfl e)) <|
    obs_cons (ok_guard 10 true (by kernel_rfl) (fun _ _ h => h) (fun _ => ok_ld (C := (CU.agg (fQN (q))).cf) (k := 2) (by kernel_rfl) (h := qn_den)) (fun e => absurd rfl e)) <|
    obs_cons (ok_guard 10 true (by kernel_rfl) (fun _ _ h => h) (fun _ => ok_call2 wide_wide en_35 (fun u0 u1 W hb (h0 : NatV W u0 ((q).den)) (h1 : NatV W u1 ((q).den)) => r1same_t h0 h1)) (fun e => absurd rfl e)) <|
    obs_cons (ok_pick true (fun _ _ h => h) (fun _ _ _ h => h) (fun e => by cases e)) <|
    obs_cons (ok_assign) <| obs_nil) fun a w2 s => ?_
  refine tail_end rfl ?_
  refine wpIn_ret ?_
  exact StS.res1 s (t := 4) rfl (fun _ _ h => h)

set_option maxRecDepth 100000 in
theorem l7same_t {W : World} {v v' : Value} {q : Rat} (h : QNp q v W) (h' : QNp q v' W) : Calls Tryd.prog 36 #[v, v'] W (Ret W (fB true).toSF) := by
  have hmix : Tryd.prog.follows .mixedOrders = true := by kernel_rfl
  have en_64 : Enters Tryd.prog 64 := enters_of Tryd.func64 (by kernel_rfl) rfl
  refine run_st [(fQN q).toSF, (fQN q).toSF] Tryd.func36 rfl (by kernel_rfl) ⟨h, h', trivial⟩ fun a s => ?_
  refine wpIn_seq ?_
  refine region_go 0 [] hmix s (by kernel_rfl)
    obs_nil fun a w1 s => ?_
  refine t_box (CU.agg (fQN (q))) rfl s (by kernel_rfl) (fun v W h => qn_box h) fun b2 a w s => ?_
  refine t_box (CU.agg (fQN (q))) rfl s (by kernel_rfl) (fun v W h => qn_box h) fun b3 a w s => ?_
  refine t_set (UF.eq (.bool false)) rfl s (by kernel_rfl) (fun _ _ h => h) fun a w s => ?_
  refine tail_end rfl ?_
  refine wpIn_seq ?_
  replace s := s.drop [4]
  refine region_go 4 ((5, .s ((fQN (q)).toSF)) :: (6, .s ((fQN (q)).toSF)) :: (7, .s ((UF.eq (.bool true)).toSF)) :: (4, .u (UF.eq (.bool true))) :: []) hmix s (by kernel_rfl)
    (obs_cons (ok_ldW (f := fQN (q)) 3 (by kernel_rfl) (hz := qn_len _)) <|
    obs_cons (ok_ldW (f := fQN (q)) 3 (by kernel_rfl) (hz := qn_len _)) <|
    obs_cons (ok_call2 wide_wide en_64 (fun u0 u1 W hb (h0 : QNp (q) u0 W) (h1 : QNp (q) u1 W) => r7told_t h0 h1)) <|
    obs_cons (ok_assign) <| obs_nil) fun a w2 s => ?_
  refine tail_end rfl ?_
  refine wpIn_ret ?_
  exact StS.res1 s (t := 4) rfl (fun _ _ h => h)

end Go.Proofs.Wd


namespace Go.Proofs.Wd
open Go.RowKit Lb

/-- A rational as it is handed in: the lengths of its parts, and what they say. -/
structure QX where
  n : Nat
  n' : Nat
  k : Int
  d : Nat
abbrev QX.cu (x : QX) : CU := CU.agg (fQX x.n x.n' x.k x.d)
/-- How much they have together, none being taken for more than 1000. -/
def qlens (L : List QX) (k : Nat) : Nat := ((L.take k).map fun x => min (x.n + x.n') 1000).sum
theorem qlens_succ {L : List QX} {k : Nat} {x : QX} (h : L[k]? = some x) : qlens L (k + 1) = qlens L k + min (x.n + x.n') 1000 := by
  unfold qlens
  rw [List.take_add_one, h]
  simp
theorem qlens_le (L : List QX) (k : Nat) : qlens L k ≤ 1000 * k := by
  induction k with
  | zero => simp [qlens]
  | succ k ih =>
    cases h : L[k]? with
    | none =>
      have : qlens L (k + 1) = qlens L k := by unfold qlens; rw [List.take_add_one, h]; simp
      omega
    | some x =>
      rw [qlens_succ h]
      omega
theorem qlens_mem {L : List QX} {k i : Nat} {x : QX} (h : L[i]? = some x) (hi : i < k) : min (x.n + x.n') 1000 ≤ qlens L k := by
  induction k with
  | zero => omega
  | succ k ih =>
    by_cases e : i = k
    · subst e; rw [qlens_succ h]; omega
    · have h1 := ih (by omega)
      cases h2 : L[k]? with
      | none =>
        have : qlens L (k + 1) = qlens L k := by unfold qlens; rw [List.take_add_one, h2]; simp
        omega
      | some y => rw [qlens_succ h2]; omega
/-- What Great answers. -/
def gq (L : List QX) : Bool := decide ((((L.map QX.cu).length : Nat) : Int) > 60) || decide (((qlens L (min (L.map QX.cu).length 61) : Nat) : Int) > 40)
theorem gq_false {L : List QX} (h : gq L = false) : ∀ x, x ∈ L → x.n ≤ 40 ∧ x.n' ≤ 40 := by
  unfold gq at h
  rw [Bool.or_eq_false_iff] at h
  have h1 := of_decide_eq_false h.1
  have h2 := of_decide_eq_false h.2
  rw [List.length_map] at h1 h2
  intro x hx
  obtain ⟨i, hi⟩ := List.getElem?_of_mem hx
  have hlt := (List.getElem?_eq_some_iff.1 hi).1
  have h3 := qlens_mem hi (k := min L.length 61) (by omega)
  omega

theorem wrap64 (u : Int) (r : Nat) (h : u = r) (hr : r < 9223372036854775808) : IntKind.i64.wrap u = r := by
  subst h
  rw [IntKind.wrap_i64]
  omega
set_option maxRecDepth 100000 in
theorem r7great_t {W : World} {v : Value} {L : List QX} (h : (SF.row 3 (L.map QX.cu)).p v W) (hL : ∀ x, x ∈ L → x.n + x.n' < 9223372036854775808) : Calls Tryd.prog 29 #[v] W (Ret W (fB (gq L)).toSF) := by
  have hmix : Tryd.prog.follows .mixedOrders = true := by kernel_rfl
  refine run_st [SF.row 3 (L.map QX.cu)] Tryd.func29 rfl (by kernel_rfl) ⟨h, trivial⟩ fun a s => ?_
  refine wpIn_seq ?_
  refine region_go 1 ((2, .u (UF.eq (.bool false))) :: []) hmix s (by kernel_rfl)
    (obs_cons (ok_assign) <| obs_nil) fun a w1 s => ?_
  refine tail_end rfl ?_
  refine wpIn_seq ?_
  refine region_go 1 ((3, .u (UF.eq (.int .i64 (0)))) :: []) hmix s (by kernel_rfl)
    (obs_cons (ok_assign) <| obs_nil) fun a w2 s => ?_
  refine tail_end rfl ?_
  refine wpIn_seq ?_
  refine wpIn_seq ?_
  refine region_go 1 ((4, .u (UF.eq (.int .i64 (0)))) :: []) hmix s (by kernel_rfl)
    (obs_cons (ok_assign) <| obs_nil) fun a w3 s => ?_
  refine tail_end rfl ?_
  refine wpIn_block ?_
  refine st_loop (min (L.map QX.cu).length 61) 4 (fun k => [(0, .o (SF.row 3 ((L).map QX.cu))), (4, .u (fI ((k : Nat) : Int))), (3, .u (fI ((qlens L (k) : Nat) : Int)))]) (fun k => .tail _ (.head _)) (s.keepK _ (List.forall_mem_cons.2 ⟨.tail _ (.tail _ (.tail _ (.head _))), List.forall_mem_cons.2 ⟨.head _, List.forall_mem_cons.2 ⟨.tail _ (.head _), List.forall_mem_nil _⟩⟩⟩)) fun k a w hk s => ?_
  refine wpIn_seq ?_
  refine wpIn_seq ?_
  refine region_go 8 ((5, .s ((fI ((k : Nat) : Int)).toSF)) :: (6, .s (SF.row 3 ((L).map QX.cu))) :: (7, .s ((UF.eq (.int .i64 (((((L).map QX.cu).length : Nat) : Int)))).toSF)) :: (8, .s ((UF.eq (.bool (decide (((k : Nat) : Int) < ((((L).map QX.cu).length : Nat) : Int))))).toSF)) :: (9, .s ((UF.eq (.bool (decide (((k : Nat) : Int) < ((((L).map QX.cu).length : Nat) : Int))))).toSF)) :: (10, .s (SF.imp (decide (((k : Nat) : Int) < ((((L).map QX.cu).length : Nat) : Int)) = true) ((fI ((k : Nat) : Int)).toSF))) :: (11, .s (SF.imp (decide (((k : Nat) : Int) < ((((L).map QX.cu).length : Nat) : Int)) = true) ((UF.eq (.bool (decide (((k : Nat) : Int) ≤ 60)))).toSF))) :: (12, .u (UF.eq (.bool ((decide (((k : Nat) : Int) < ((((L).map QX.cu).length : Nat) : Int))) && (decide (((k : Nat) : Int) ≤ 60)))))) :: []) hmix s (by kernel_rfl)
    (obs_cons (ok_move) <|
    obs_cons (ok_move) <|
    obs_cons (ok_lenR (z := 3) (Cs := (L).map QX.cu) (by kernel_rfl) (fun _ _ h => h) (fun _ => rfl)) <|
    obs_cons (ok_cmpI .i64 (((k : Nat) : Int)) (((((L).map QX.cu).length : Nat) : Int)) (decide (((k : Nat) : Int) < ((((L).map QX.cu).length : Nat) : Int))) (fun _ _ h => h) (fun _ _ h => h) rfl rfl) <|
    obs_cons (ok_move) <|
    obs_cons (ok_guard 9 (decide (((k : Nat) : Int) < ((((L).map QX.cu).length : Nat) : Int))) (by kernel_rfl) (fun _ _ h => h) (fun e => gd_imp [] ((fI ((k : Nat) : Int)).toSF) (List.forall_mem_nil _) (fun _ _ h _ => h) (by kernel_rfl) (ok_move)) (fun e W h => absurd h e)) <|
    obs_cons (ok_guard 9 (decide (((k : Nat) : Int) < ((((L).map QX.cu).length : Nat) : Int))) (by kernel_rfl) (fun _ _ h => h) (fun e => gd_imp [(10, (fI ((k : Nat) : Int)).toSF)] ((UF.eq (.bool (decide (((k : Nat) : Int) ≤ 60)))).toSF) (List.forall_mem_cons.2 ⟨fun v W h => imp_app (c := decide (((k : Nat) : Int) < ((((L).map QX.cu).length : Nat) : Int)) = true) (f := (fI ((k : Nat) : Int)).toSF) e h, List.forall_mem_nil _⟩) (fun _ _ h _ => h) (by kernel_rfl) (ok_cmpI .i64 (((k : Nat) : Int)) (60) (decide (((k : Nat) : Int) ≤ 60)) (fun _ _ h => h) (fun _ _ h => h) rfl rfl)) (fun e W h => absurd h e)) <|
    obs_cons (ok_pick (decide (((k : Nat) : Int) < ((((L).map QX.cu).length : Nat) : Int))) (fun _ _ h => h) (fun e v W h => pick_and (imp_app e h) e) (fun e v W h => pick_and' h e)) <| obs_nil) fun a w4 s => ?_
  refine tail_end rfl ?_
  refine StS.cond s ((decide (((k : Nat) : Int) < ((((L).map QX.cu).length : Nat) : Int))) && (decide (((k : Nat) : Int) ≤ 60))) (fun _ _ h => h) (fun e => ?_) (fun e => ?_)
  · rw [Bool.and_eq_true] at e
    have hk1 := of_decide_eq_true e.1
    have hk2 := of_decide_eq_true e.2
    have hk3 : k < L.length := by rw [List.length_map] at hk1; omega
    obtain ⟨x, hxl⟩ : ∃ x, L[k]? = some x := ⟨_, List.getElem?_eq_getElem hk3⟩
    have hx : (L.map QX.cu)[k]? = some x.cu := by rw [List.getElem?_map, hxl]; rfl
    have hxm := hL x (List.mem_of_getElem? hxl)
    have hgs := qlens_succ hxl
    have hgl := qlens_le L k
    refine wpIn_skip ?_
    refine wpIn_seq ?_
    refine wpIn_block ?_
    refine region_goPS (K := [(12, .u (UF.eq (.bool ((decide (((k : Nat) : Int) < ((((L).map QX.cu).length : Nat) : Int))) && (decide (((k : Nat) : Int) ≤ 60)))))), (0, .o (SF.row 3 ((L).map QX.cu))), (4, .u (fI ((k : Nat) : Int)))]) [(3, .u (fI ((qlens L (k) : Nat) : Int)))] [0, 1, 2, 8, 9] 17 ((15, .s ((fI ((qlens L (k) : Nat) : Int)).toSF)) :: (16, .s (SF.row 3 ((L).map QX.cu))) :: (17, .s ((fI ((k : Nat) : Int)).toSF)) :: (18, .s (SF.ptr (QX.cu x).cf)) :: (19, .s (SF.ptr ((QX.cu x).cf.at 0))) :: (20, .s (SF.ptr ((QX.cu x).cf.at 1))) :: (21, .s ((fSl (x.n)).toSF)) :: (22, .s ((UF.eq (.int .i64 (((x.n : Nat) : Int)))).toSF)) :: (23, .s (SF.row 3 ((L).map QX.cu))) :: (24, .s ((fI ((k : Nat) : Int)).toSF)) :: (25, .s (SF.ptr (QX.cu x).cf)) :: (26, .s (SF.ptr ((QX.cu x).cf.at 2))) :: (27, .s ((fSl (x.n')).toSF)) :: (28, .s ((UF.eq (.int .i64 (((x.n' : Nat) : Int)))).toSF)) :: (29, .s ((UF.eq (.int .i64 (((x.n + x.n' : Nat) : Int)))).toSF)) :: (30, .s ((UF.eq (.int .i64 (min (((x.n + x.n' : Nat) : Int)) (1000)))).toSF)) :: (31, .u (fI ((qlens L (k + 1) : Nat) : Int))) :: []) hmix (s.keepK _ (List.forall_mem_cons.2 ⟨.tail _ (.tail _ (.tail _ (.head _))), List.forall_mem_cons.2 ⟨.head _, List.forall_mem_cons.2 ⟨.tail _ (.head _), List.forall_mem_cons.2 ⟨.tail _ (.tail _ (.head _)), List.forall_mem_nil _⟩⟩⟩⟩)) (by kernel_rfl)
      (obs_cons (ok_move) <|
      obs_cons (ok_move) <|
      obs_cons (ok_move) <|
      obs_cons (ok_index (z := 3) (Cs := (L).map QX.cu) (i := k) (C := QX.cu x) (by kernel_rfl) hx (fun _ _ h => h) (fun _ _ h => h)) <|
      obs_cons (ok_fld (C := (QX.cu x).cf) 0 (by kernel_rfl)) <|
      obs_cons (ok_fldn (C := (QX.cu x).cf) 0 1 (by kernel_rfl)) <|
      obs_cons (ok_ld (C := (QX.cu x).cf) (k := 1) (by kernel_rfl) (h := qx_abs)) <|
      obs_cons (ok_len (by kernel_rfl) (fun v W ⟨A, c, e⟩ => ⟨A, x.n, c, e, rfl⟩)) <|
      obs_cons (ok_move) <|
      obs_cons (ok_move) <|
      obs_cons (ok_index (z := 3) (Cs := (L).map QX.cu) (i := k) (C := QX.cu x) (by kernel_rfl) hx (fun _ _ h => h) (fun _ _ h => h)) <|
      obs_cons (ok_fld (C := (QX.cu x).cf) 2 (by kernel_rfl)) <|
      obs_cons (ok_ld (C := (QX.cu x).cf) (k := 2) (by kernel_rfl) (h := qx_den)) <|
      obs_cons (ok_len (by kernel_rfl) (fun v W ⟨A, c, e⟩ => ⟨A, x.n', c, e, rfl⟩)) <|
      obs_cons (ok_addI .i64 (((x.n : Nat) : Int)) (((x.n' : Nat) : Int)) (((x.n + x.n' : Nat) : Int)) (fun _ _ h => h) (fun _ _ h => h) (wrap64 _ _ (by omega) (by omega))) <|
      obs_cons (ok_minI (((x.n + x.n' : Nat) : Int)) (1000) (fun _ _ h => h) (fun _ _ h => h)) <|
      obs_cons (ok_addI .i64 (((qlens L (k) : Nat) : Int)) (min (((x.n + x.n' : Nat) : Int)) (1000)) (((qlens L (k + 1) : Nat) : Int)) (fun _ _ h => h) (fun _ _ h => h) (wrap64 _ _ (by omega) (by omega))) <| obs_nil) fun Q' hQ a w5 s => ?_
    refine t_set (fI ((qlens L (k + 1) : Nat) : Int)) rfl s (by kernel_rfl) (fun _ _ h => h) fun a w s => ?_
    refine tail_end rfl (hQ _ _ ?_)
    refine region_goS 2 ((13, .s ((fI ((k : Nat) : Int)).toSF)) :: (14, .u (fI ((k + 1 : Nat) : Int))) :: []) s (by kernel_rfl)
      (obs_cons (ok_move) <|
      obs_cons (ok_addI .i64 (((k : Nat) : Int)) (1) (((k + 1 : Nat) : Int)) (fun _ _ h => h) (fun _ _ h => h) (wrap64 _ _ (by omega) (by omega))) <| obs_nil) fun a w6 s => ?_
    replace s := s.drop [4]
    refine t_set (fI ((k + 1 : Nat) : Int)) rfl s (by kernel_rfl) (fun _ _ h => h) fun a w s => ?_
    refine tail_end rfl ?_
    exact ⟨by omega, s.keepK _ (List.forall_mem_cons.2 ⟨.tail _ (.tail _ (.tail _ (.tail _ (.tail _ (.head _))))), List.forall_mem_cons.2 ⟨.head _, List.forall_mem_cons.2 ⟨.tail _ (.tail _ (.head _)), List.forall_mem_nil _⟩⟩⟩)⟩
  · rw [Bool.and_eq_false_iff] at e
    have hkN : k = min (L.map QX.cu).length 61 := by
      rcases e with e | e
      · have := of_decide_eq_false e; omega
      · have := of_decide_eq_false e; omega
    refine wpIn_exit ?_
    refine wpIn_seq ?_
    refine region_go 8 ((32, .s (SF.row 3 ((L).map QX.cu))) :: (33, .s ((UF.eq (.int .i64 (((((L).map QX.cu).length : Nat) : Int)))).toSF)) :: (34, .s ((UF.eq (.bool (decide (((((L).map QX.cu).length : Nat) : Int) > 60)))).toSF)) :: (35, .s ((UF.eq (.bool (decide (((((L).map QX.cu).length : Nat) : Int) > 60)))).toSF)) :: (36, .s (SF.imp (decide (((((L).map QX.cu).length : Nat) : Int) > 60) = false) ((fI ((qlens L (k) : Nat) : Int)).toSF))) :: (37, .s (SF.imp (decide (((((L).map QX.cu).length : Nat) : Int) > 60) = false) ((UF.eq (.bool (decide (((qlens L (k) : Nat) : Int) > 40)))).toSF))) :: (38, .s ((UF.eq (.bool ((decide (((((L).map QX.cu).length : Nat) : Int) > 60)) || (decide (((qlens L (k) : Nat) : Int) > 40))))).toSF)) :: (2, .u (UF.eq (.bool ((decide (((((L).map QX.cu).length : Nat) : Int) > 60)) || (decide (((qlens L (k) : Nat) : Int) > 40)))))) :: []) hmix s (by kernel_rfl)
      (obs_cons (ok_move) <|
      obs_cons (ok_lenR (z := 3) (Cs := (L).map QX.cu) (by kernel_rfl) (fun _ _ h => h) (fun _ => rfl)) <|
      obs_cons (ok_cmpI .i64 (((((L).map QX.cu).length : Nat) : Int)) (60) (decide (((((L).map QX.cu).length : Nat) : Int) > 60)) (fun _ _ h => h) (fun _ _ h => h) rfl rfl) <|
      obs_cons (ok_move) <|
      obs_cons (ok_guard 35 (decide (((((L).map QX.cu).length : Nat) : Int) > 60)) (by kernel_rfl) (fun _ _ h => h) (fun e => gd_imp [] ((fI ((qlens L (k) : Nat) : Int)).toSF) (List.forall_mem_nil _) (fun _ _ h _ => h) (by kernel_rfl) (ok_move)) (fun e W h => absurd h e)) <|
      obs_cons (ok_guard 35 (decide (((((L).map QX.cu).length : Nat) : Int) > 60)) (by kernel_rfl) (fun _ _ h => h) (fun e => gd_imp [(36, (fI ((qlens L (k) : Nat) : Int)).toSF)] ((UF.eq (.bool (decide (((qlens L (k) : Nat) : Int) > 40)))).toSF) (List.forall_mem_cons.2 ⟨fun v W h => imp_app (c := decide (((((L).map QX.cu).length : Nat) : Int) > 60) = false) (f := (fI ((qlens L (k) : Nat) : Int)).toSF) e h, List.forall_mem_nil _⟩) (fun _ _ h _ => h) (by kernel_rfl) (ok_cmpI .i64 (((qlens L (k) : Nat) : Int)) (40) (decide (((qlens L (k) : Nat) : Int) > 40)) (fun _ _ h => h) (fun _ _ h => h) rfl rfl)) (fun e W h => absurd h e)) <|
      obs_cons (ok_pick (decide (((((L).map QX.cu).length : Nat) : Int) > 60)) (fun _ _ h => h) (fun e v W h => pick_or h e) (fun e v W h => pick_or' (imp_app e h) e)) <|
      obs_cons (ok_assign) <| obs_nil) fun a w7 s => ?_
    refine tail_end rfl ?_
    refine wpIn_ret ?_
    exact StS.res1 s (t := 2) rfl (fun _ _ h => by rw [hkN] at h; exact h)

end Go.Proofs.Wd


namespace Go.Proofs.Wd
open Go.RowKit Lb

theorem bNatD (d : Int) : sliceCells Tryd.prog 23 1 [(0, .int .u32 d)] = some (49, #[.int .u32 d]) := by kernel_rfl
/-- A number of one limb. -/
theorem sl_limb {u : Value} {W : World} (d : Nat) (h0 : 0 < d) (h1 : d < 4294967296) (hu : u = .int .u32 (d : Nat)) : ∃ e cs, sliceCells Tryd.prog 23 1 [(0, u)] = some (e, cs) ∧ NatV (W.alloc (.cells cs e)) (.slice (some ⟨W.heap.size, 0, none⟩) 1 1) d := by
  subst hu
  refine ⟨_, _, bNatD d, _, 1, 1, [d], rfl, ⟨fun y hy => by simp at hy; subst hy; exact h1, fun hn => by simp; omega, ?_⟩, Rd.new W [d] _ _ (by simp [u32s]) (by simp)⟩
  show sm (lm [d]) 1 = d
  simp [sm, lm]
theorem lv_nil {v : Value} {W : World} {m : Nat} (h : v = .slice none 0 0) : LV W m v 0 := ⟨none, 0, 0, [], h, Rd.nil_ W, Lt_nil, Nat.zero_le _, rfl⟩
theorem bRatN0 (s : Bool) (A : Option Addr) (n c : Nat) : Tryd.prog.built 43 [(0, .agg #[.bool s, .slice A n c])] = some #[.bool s, .slice A n c, .slice none 0 0] := by kernel_rfl
/-- A rational without a Den. -/
theorem b_rat0 {u : Value} {W : World} {m : Nat} {k : Int} (hu : UV W m u k) : ∃ cells, Tryd.prog.built 43 [(0, u)] = some cells ∧ RVp m 0 (.agg cells) W := by
  obtain ⟨s, A, n, c, l, rfl, h1⟩ := id hu
  exact ⟨_, bRatN0 _ _ _ _, k, 0, ⟨_, _, _, rfl, hu, lv_nil rfl⟩, Rat.mkRat_zero k⟩
theorem ret_cast {P : Program} {f : FuncId} {args : Array Value} {W : World} {g g' : SF} (h : Calls P f args W (Ret W g)) (e : g = g') : Calls P f args W (Ret W g') := e ▸ h

set_option maxRecDepth 100000 in
theorem l7by_t {W : World} {q : Rat} (h : -9223372036854775808 ≤ q.num ∧ q.num ≤ 9223372036854775807) (h' : q.den < 4294967296) : Calls Tryd.prog 63 #[.int .i64 q.num, .int .u32 (q.den : Nat)] W (Ret W (fQN q).toSF) := by
  have hmix : Tryd.prog.follows .mixedOrders = true := by kernel_rfl
  have en_62 : Enters Tryd.prog 62 := enters_of Tryd.func62 (by kernel_rfl) rfl
  refine run_st [(UF.eq (.int .i64 q.num)).toSF, (UF.eq (.int .u32 (q.den : Nat))).toSF] Tryd.func63 rfl (by kernel_rfl) ⟨rfl, rfl, trivial⟩ fun a s => ?_
  refine wpIn_seq ?_
  refine region_go 0 [] hmix s (by kernel_rfl)
    obs_nil fun a w1 s => ?_
  refine t_alloc (CU.len 3) (cs := [.bool false, .slice none 0 0, .slice none 0 0]) (by kernel_rfl) rfl s (by kernel_rfl) (fun W => rfl) rfl fun b4 a w s => ?_
  refine tail_end rfl ?_
  refine wpIn_seq ?_
  refine region_go 5 ((5, .s ((UF.eq (.int .i64 (q.num))).toSF)) :: (6, .s ((fNV (q.num)).toSF)) :: (7, .s ((UF.eq (.int .u32 (q.den : Nat))).toSF)) :: (8, .s ((fNat (q.den)).toSF)) :: (9, .u (fQN (q))) :: []) hmix s (by kernel_rfl)
    (obs_cons (ok_move) <|
    obs_cons (ok_call1 wide_wide en_62 (fun u0 W hb (h0 : u0 = .int .i64 (q.num)) => (by rw [h0]; exact r5of_v _ h))) <|
    obs_cons (ok_move) <|
    obs_cons (ok_slice1 (fun u W (hu : u = .int .u32 (q.den : Nat)) => sl_limb q.den q.den_pos h' hu)) <|
    obs_cons (ok_build2 (fun u v W (hu : NV W u q.num) (hv : NatV W v q.den) => b_ratN (q := q) hu hv)) <| obs_nil) fun a w2 s => ?_
  refine t_store (CU.agg (fQN (q))) ((fQN (q)).toSF) rfl s (by kernel_rfl) rfl rfl rfl (fun _ _ h => h) (fun _ _ h => h) (qn_store) fun a w s => ?_
  refine tail_end rfl ?_
  refine wpIn_ret ?_
  exact StS.resC s (CU.agg (fQN q)) rfl (by kernel_rfl) rfl rfl (qn_len _) (fun cs W h => h)

theorem l7by_w {W : World} {u v : Value} (q : Rat) (n : Int) (d : Nat) (hn : q.num = n) (hd : q.den = d) (hu : u = .int .i64 n) (hv : v = .int .u32 (d : Nat)) (h : -9223372036854775808 ≤ n ∧ n ≤ 9223372036854775807) (h' : d < 4294967296) : Calls Tryd.prog 63 #[u, v] W (Ret W (fQN q).toSF) := by
  subst hn hd hu hv
  exact l7by_t h h'
theorem r5of_w {W : World} {u : Value} (k : Int) (hu : u = .int .i64 k) (h : -9223372036854775808 ≤ k ∧ k ≤ 9223372036854775807) : Calls Tryd.prog 62 #[u] W (RetV W k) := by
  subst hu
  exact r5of_v k h
theorem qb1 {q : Rat} (h : q.num.natAbs < 4294967296) (h' : q.den < 4294967296) : QB q 1 := ⟨by unfold Bd BB; omega, by unfold BB; omega⟩

set_option maxRecDepth 100000 in
theorem l7wakes_t {W : World} (hT : Tab W) : Calls Tryd.prog 30 #[] W (Ret W (fB true).toSF) := by
  have hmix : Tryd.prog.follows .mixedOrders = true := by kernel_rfl
  have en_44 : Enters Tryd.prog 44 := enters_of Tryd.func44 (by kernel_rfl) rfl
  have en_41 : Enters Tryd.prog 41 := enters_of Tryd.func41 (by kernel_rfl) rfl
  have en_61 : Enters Tryd.prog 61 := enters_of Tryd.func61 (by kernel_rfl) rfl
  have en_43 : Enters Tryd.prog 43 := enters_of Tryd.func43 (by kernel_rfl) rfl
  have en_63 : Enters Tryd.prog 63 := enters_of Tryd.func63 (by kernel_rfl) rfl
  have en_62 : Enters Tryd.prog 62 := enters_of Tryd.func62 (by kernel_rfl) rfl
  have en_32 : Enters Tryd.prog 32 := enters_of Tryd.func32 (by kernel_rfl) rfl
  have en_64 : Enters Tryd.prog 64 := enters_of Tryd.func64 (by kernel_rfl) rfl
  refine run_st [] Tryd.func30 rfl (by kernel_rfl) trivial fun a s => ?_
  refine wpIn_seq ?_
  refine region_go 1 ((0, .u (UF.eq (.bool false))) :: []) hmix s (by kernel_rfl)
    (obs_cons (ok_assign) <| obs_nil) fun a w1 s => ?_
  refine tail_end rfl ?_
  refine wpIn_seq ?_
  refine region_go 6 ((7, .s ((fNV ((2))).toSF)) :: (8, .s ((fNat (4)).toSF)) :: (9, .s ((fTup2 (fQN ((mkRat (1) 2))) (UF.eq (.int .i64 (0)))).toSF)) :: (6, .s ((fTup2 (fQN ((mkRat (1) 2))) (UF.eq (.int .i64 (0)))).toSF)) :: (10, .u (fQN ((mkRat (1) 2)))) :: (11, .u (UF.eq (.int .i64 (0)))) :: []) hmix s (by kernel_rfl)
    (obs_cons (ok_call1 wide_wide en_62 (fun u0 W hb (h0 : u0 = .int .i64 (2)) => r5of_w (2) h0 (by decide))) <|
    obs_cons (ok_slice1 (fun u W (hu : u = .int .u32 4) => sl_limb 4 (by decide) (by decide) hu)) <|
    obs_cons (ok_call2 wide_wide en_61 (fun u0 u1 W hb (h0 : NV W u0 ((2))) (h1 : NatV W u1 (4)) => (ret_cast (rNew_v (m := 1) (NV.uv' h0 (by unfold Bd BB; decide)) (NatV.lv h1 (by unfold BB; decide)) (by omega) (hT.below (s.up hb))) (congrArg UF.toSF (congr (congrArg fTup2 (congrArg fQN (show mkRat 2 4 = mkRat 1 2 by decide))) (congrArg fI (by decide : (if 4 = 0 then 30 else 0 : Int) = 0))))))) <|
    obs_cons (ok_move) <|
    obs_cons (ok_ext20 (A := (fQN ((mkRat (1) 2))).toSF) (B := (UF.eq (.int .i64 (0))).toSF) (fun _ _ h => h)) <|
    obs_cons (ok_ext21 (A := (fQN ((mkRat (1) 2))).toSF) (B := (UF.eq (.int .i64 (0))).toSF) (fun _ _ h => h)) <| obs_nil) fun a w2 s => ?_
  refine t_alloc (CU.len 3) (cs := [.bool false, .slice none 0 0, .slice none 0 0]) (by kernel_rfl) rfl s (by kernel_rfl) (fun W => rfl) rfl fun b1 a w s => ?_
  refine t_store (CU.agg (fQN ((mkRat (1) 2)))) ((fQN ((mkRat (1) 2))).toSF) rfl s (by kernel_rfl) rfl rfl rfl (fun _ _ h => h) (fun _ _ h => h) (qn_store) fun a w s => ?_
  refine t_set (UF.eq (.int .i64 (0))) rfl s (by kernel_rfl) (fun _ _ h => h) fun a w s => ?_
  refine tail_end rfl ?_
  refine wpIn_seq ?_
  refine region_go 5 ((13, .s ((fNV ((2))).toSF)) :: (14, .s ((fTup2 (fQN ((0 : Rat))) (UF.eq (.int .i64 (30)))).toSF)) :: (12, .s ((fTup2 (fQN ((0 : Rat))) (UF.eq (.int .i64 (30)))).toSF)) :: (15, .u (fQN ((0 : Rat)))) :: (16, .u (UF.eq (.int .i64 (30)))) :: []) hmix s (by kernel_rfl)
    (obs_cons (ok_call1 wide_wide en_62 (fun u0 W hb (h0 : u0 = .int .i64 (2)) => r5of_w (2) h0 (by decide))) <|
    obs_cons (ok_call2 wide_wide en_61 (fun u0 u1 W hb (h0 : NV W u0 ((2))) (h1 : u1 = .slice none 0 0) => (ret_cast (rNew_v (m := 1) (NV.uv' h0 (by unfold Bd BB; decide)) (lv_nil h1) (by omega) (hT.below (s.up hb))) (congrArg UF.toSF (congr (congrArg fTup2 (congrArg fQN (show mkRat 2 0 = 0 by decide))) (congrArg fI (by decide : (if 0 = 0 then 30 else 0 : Int) = 30))))))) <|
    obs_cons (ok_move) <|
    obs_cons (ok_ext20 (A := (fQN ((0 : Rat))).toSF) (B := (UF.eq (.int .i64 (30))).toSF) (fun _ _ h => h)) <|
    obs_cons (ok_ext21 (A := (fQN ((0 : Rat))).toSF) (B := (UF.eq (.int .i64 (30))).toSF) (fun _ _ h => h)) <| obs_nil) fun a w3 s => ?_
  refine t_alloc (CU.len 3) (cs := [.bool false, .slice none 0 0, .slice none 0 0]) (by kernel_rfl) rfl s (by kernel_rfl) (fun W => rfl) rfl fun b3 a w s => ?_
  refine t_store (CU.agg (fQN ((0 : Rat)))) ((fQN ((0 : Rat))).toSF) rfl s (by kernel_rfl) rfl rfl rfl (fun _ _ h => h) (fun _ _ h => h) (qn_store) fun a w s => ?_
  refine t_set (UF.eq (.int .i64 (30))) rfl s (by kernel_rfl) (fun _ _ h => h) fun a w s => ?_
  refine tail_end rfl ?_
  refine wpIn_seq ?_
  refine region_go 3 ((17, .s ((fQN ((mkRat (1) 2))).toSF)) :: (18, .s ((fQN ((mkRat (1) 3))).toSF)) :: (19, .u (fQN ((mkRat (5) 12)))) :: []) hmix s (by kernel_rfl)
    (obs_cons (ok_call2 wide_wide en_63 (fun u0 u1 W hb (h0 : u0 = .int .i64 (1)) (h1 : u1 = .int .u32 (2)) => l7by_w (mkRat (1) 2) (1) 2 (by decide) (by decide) h0 h1 (by decide) (by decide))) <|
    obs_cons (ok_call2 wide_wide en_63 (fun u0 u1 W hb (h0 : u0 = .int .i64 (1)) (h1 : u1 = .int .u32 (3)) => l7by_w (mkRat (1) 3) (1) 3 (by decide) (by decide) h0 h1 (by decide) (by decide))) <|
    obs_cons (ok_call2 wide_wide en_41 (fun u0 u1 W hb (h0 : QNp ((mkRat (1) 2)) u0 W) (h1 : QNp ((mkRat (1) 3)) u1 W) => (ret_cast (rMid_q (m := 1) (QNp.rv h0 (qb1 (by decide) (by decide))) (QNp.rv h1 (qb1 (by decide) (by decide))) (by omega) (by omega) (hT.below (s.up hb))) (congrArg (fun q => (fQN q).toSF) (show (mkRat 1 2 + mkRat 1 3) / 2 = mkRat 5 12 by decide +kernel))))) <| obs_nil) fun a w4 s => ?_
  refine t_alloc (CU.len 3) (cs := [.bool false, .slice none 0 0, .slice none 0 0]) (by kernel_rfl) rfl s (by kernel_rfl) (fun W => rfl) rfl fun b5 a w s => ?_
  refine t_store (CU.agg (fQN ((mkRat (5) 12)))) ((fQN ((mkRat (5) 12))).toSF) rfl s (by kernel_rfl) rfl rfl rfl (fun _ _ h => h) (fun _ _ h => h) (qn_store) fun a w s => ?_
  refine tail_end rfl ?_
  refine wpIn_seq ?_
  replace s := s.drop [0]
  refine region_go 29 ((20, .s ((UF.eq (.int .i64 (0))).toSF)) :: (21, .s ((UF.eq (.bool true)).toSF)) :: (22, .s ((UF.eq (.bool true)).toSF)) :: (23, .s ((fQN ((mkRat (1) 2))).toSF)) :: (24, .s ((fQN ((mkRat (1) 2))).toSF)) :: (25, .s ((UF.eq (.bool true)).toSF)) :: (26, .s ((UF.eq (.bool true)).toSF)) :: (27, .s ((UF.eq (.bool true)).toSF)) :: (28, .s ((UF.eq (.int .i64 (30))).toSF)) :: (29, .s ((UF.eq (.bool true)).toSF)) :: (30, .s ((UF.eq (.bool true)).toSF)) :: (31, .s ((UF.eq (.bool true)).toSF)) :: (32, .s ((fQN ((mkRat (-1) 2))).toSF)) :: (33, .s ((fNV ((-1))).toSF)) :: (34, .s ((fNV ((-1))).toSF)) :: (35, .s ((UF.eq (.bool true)).toSF)) :: (36, .s ((UF.eq (.bool true)).toSF)) :: (37, .s ((UF.eq (.bool true)).toSF)) :: (38, .s ((fQN ((mkRat (5) 12))).toSF)) :: (39, .s ((fQN ((mkRat (5) 12))).toSF)) :: (40, .s ((UF.eq (.bool true)).toSF)) :: (41, .s ((UF.eq (.bool true)).toSF)) :: (42, .s ((UF.eq (.bool true)).toSF)) :: (43, .s ((fNV ((3))).toSF)) :: (44, .s ((fRV (1) ((0 : Rat))).toSF)) :: (45, .s ((UF.eq (.int .i64 (0))).toSF)) :: (46, .s ((UF.eq (.bool true)).toSF)) :: (47, .s ((UF.eq (.bool true)).toSF)) :: (0, .u (UF.eq (.bool true))) :: []) hmix s (by kernel_rfl)
    (obs_cons (ok_move) <|
    obs_cons (ok_cmpI .i64 (0) (0) (true) (fun _ _ h => h) (fun _ _ h => h) (by decide) rfl) <|
    obs_cons (ok_move) <|
    obs_cons (ok_guard 22 true (by kernel_rfl) (fun _ _ h => h) (fun _ => ok_ldW (f := fQN ((mkRat (1) 2))) 3 (by kernel_rfl) (hz := qn_len _)) (fun e => absurd rfl e)) <|
    obs_cons (ok_guard 22 true (by kernel_rfl) (fun _ _ h => h) (fun _ => ok_call2 wide_wide en_63 (fun u0 u1 W hb (h0 : u0 = .int .i64 (1)) (h1 : u1 = .int .u32 (2)) => l7by_w (mkRat (1) 2) (1) 2 (by decide) (by decide) h0 h1 (by decide) (by decide))) (fun e => absurd rfl e)) <|
    obs_cons (ok_guard 22 true (by kernel_rfl) (fun _ _ h => h) (fun _ => ok_call2 wide_wide en_64 (fun u0 u1 W hb (h0 : QNp ((mkRat (1) 2)) u0 W) (h1 : QNp ((mkRat (1) 2)) u1 W) => r7told_t h0 h1)) (fun e => absurd rfl e)) <|
    obs_cons (ok_pick true (fun _ _ h => h) (fun _ _ _ h => h) (fun e => by cases e)) <|
    obs_cons (ok_move) <|
    obs_cons (ok_guard 27 true (by kernel_rfl) (fun _ _ h => h) (fun _ => ok_move) (fun e => absurd rfl e)) <|
    obs_cons (ok_guard 27 true (by kernel_rfl) (fun _ _ h => h) (fun _ => ok_cmpI .i64 (30) (30) (true) (fun _ _ h => h) (fun _ _ h => h) (by decide) rfl) (fun e => absurd rfl e)) <|
    obs_cons (ok_pick true (fun _ _ h => h) (fun _ _ _ h => h) (fun e => by cases e)) <|
    obs_cons (ok_move) <|
    obs_cons (ok_guard 31 true (by kernel_rfl) (fun _ _ h => h) (fun _ => ok_call2 wide_wide en_63 (fun u0 u1 W hb (h0 : u0 = .int .i64 (-1)) (h1 : u1 = .int .u32 (2)) => l7by_w (mkRat (-1) 2) (-1) 2 (by decide) (by decide) h0 h1 (by decide) (by decide))) (fun e => absurd rfl e)) <|
    obs_cons (ok_guard 31 true (by kernel_rfl) (fun _ _ h => h) (fun _ => ok_call1 wide_wide en_44 (fun u0 W hb (h0 : QNp ((mkRat (-1) 2)) u0 W) => (ret_cast (rFloor_q (m := 1) (QNp.rv h0 (qb1 (by decide) (by decide))) (by omega) (by omega) (hT.below (s.up hb))) (congrArg (fun k => (fNV k).toSF) (show (mkRat (-1) 2).num / ((mkRat (-1) 2).den : Int) = -1 by decide))))) (fun e => absurd rfl e)) <|
    obs_cons (ok_guard 31 true (by kernel_rfl) (fun _ _ h => h) (fun _ => ok_call1 wide_wide en_62 (fun u0 W hb (h0 : u0 = .int .i64 (-1)) => r5of_w (-1) h0 (by decide))) (fun e => absurd rfl e)) <|
    obs_cons (ok_guard 31 true (by kernel_rfl) (fun _ _ h => h) (fun _ => ok_call2 wide_wide en_32 (fun u0 u1 W hb (h0 : NV W u0 ((-1))) (h1 : NV W u1 ((-1))) => r5told_t h0 h1)) (fun e => absurd rfl e)) <|
    obs_cons (ok_pick true (fun _ _ h => h) (fun _ _ _ h => h) (fun e => by cases e)) <|
    obs_cons (ok_move) <|
    obs_cons (ok_guard 37 true (by kernel_rfl) (fun _ _ h => h) (fun _ => ok_ldW (f := fQN ((mkRat (5) 12))) 3 (by kernel_rfl) (hz := qn_len _)) (fun e => absurd rfl e)) <|
    obs_cons (ok_guard 37 true (by kernel_rfl) (fun _ _ h => h) (fun _ => ok_call2 wide_wide en_63 (fun u0 u1 W hb (h0 : u0 = .int .i64 (5)) (h1 : u1 = .int .u32 (12)) => l7by_w (mkRat (5) 12) (5) 12 (by decide) (by decide) h0 h1 (by decide) (by decide))) (fun e => absurd rfl e)) <|
    obs_cons (ok_guard 37 true (by kernel_rfl) (fun _ _ h => h) (fun _ => ok_call2 wide_wide en_64 (fun u0 u1 W hb (h0 : QNp ((mkRat (5) 12)) u0 W) (h1 : QNp ((mkRat (5) 12)) u1 W) => r7told_t h0 h1)) (fun e => absurd rfl e)) <|
    obs_cons (ok_pick true (fun _ _ h => h) (fun _ _ _ h => h) (fun e => by cases e)) <|
    obs_cons (ok_move) <|
    obs_cons (ok_guard 42 true (by kernel_rfl) (fun _ _ h => h) (fun _ => ok_call1 wide_wide en_62 (fun u0 W hb (h0 : u0 = .int .i64 (3)) => r5of_w (3) h0 (by decide))) (fun e => absurd rfl e)) <|
    obs_cons (ok_guard 42 true (by kernel_rfl) (fun _ _ h => h) (fun _ => ok_build1 (fun u W (hu : NV W u 3) => b_rat0 (m := 1) (NV.uv' hu (by unfold Bd BB; decide)))) (fun e => absurd rfl e)) <|
    obs_cons (ok_guard 42 true (by kernel_rfl) (fun _ _ h => h) (fun _ => ok_call1 wide_wide en_43 (fun u0 W hb (h0 : RVp (1) ((0 : Rat)) u0 W) => (ret_cast (rSign_q (m := 1) h0 (by omega) (by omega) (hT.below (s.up hb))) (congrArg (fun k => (fI k).toSF) (show (0 : Rat).num.sign = 0 by decide))))) (fun e => absurd rfl e)) <|
    obs_cons (ok_guard 42 true (by kernel_rfl) (fun _ _ h => h) (fun _ => ok_cmpI .i64 (0) (0) (true) (fun _ _ h => h) (fun _ _ h => h) (by decide) rfl) (fun e => absurd rfl e)) <|
    obs_cons (ok_pick true (fun _ _ h => h) (fun _ _ _ h => h) (fun e => by cases e)) <|
    obs_cons (ok_assign) <| obs_nil) fun a w5 s => ?_
  refine tail_end rfl ?_
  refine wpIn_ret ?_
  exact StS.res1 s (t := 0) rfl (fun _ _ h => h)

end Go.Proofs.Wd


namespace Go.Proofs.Wd
open Go.RowKit Lb

/-- What a rational that is handed in says. -/
abbrev QX.q (x : QX) : Rat := mkRat x.k x.d
theorem qx_form {n n' : Nat} {k : Int} {d : Nat} {v : Value} {W : World} (h : (fQX n n' k d).p v W) : ∃ s A c A' c', v = .agg #[.bool s, .slice A n c, .slice A' n' c'] := by
  obtain ⟨b, s, t, rfl, ⟨sg, A, c, l, e1, _⟩, A', c', l', rfl, _⟩ := h
  have := congrArg Array.toList (agg_inj e1)
  simp at this
  rw [this.1, this.2]
  exact ⟨_, _, _, _, _, rfl⟩
theorem qx_box {n n' : Nat} {k : Int} {d : Nat} {v : Value} {W : World} (h : (fQX n n' k d).p v W) : (CU.agg (fQX n n' k d)).p v.cells.toList W ∧ v.cells.toList.all noLimb = true := by
  obtain ⟨sg, A, c, A', c', rfl⟩ := qx_form h
  exact ⟨h, rfl⟩
theorem rv_x {n n' m : Nat} {k : Int} {d : Nat} {v : Value} {W : World} (h : QXp n n' k d v W) (h1 : n ≤ m) (h2 : n' ≤ m) : RVp m (mkRat k d) v W := ⟨k, d, qx_qv h h1 h2, rfl⟩
theorem QXp.qb {x : QX} {v : Value} {W : World} (h : QXp x.n x.n' x.k x.d v W) (hg : x.n ≤ 40 ∧ x.n' ≤ 40) : QB x.q 40 := (rv_x h hg.1 hg.2).qb (by omega)
theorem mem_part {W : World} {b o : Nat} {cs ds : List Value} (k : Nat) (h : Mem W b o cs) (hd : ∀ j u, ds[j]? = some u → cs[k + j]? = some u) : Mem W b (o + k) ds := fun j u hj => by
  have := h (k + j) u (hd j u hj)
  rwa [← Nat.add_assoc] at this
theorem l7same_e {W : World} {v v' : Value} {q q' : Rat} (h : QNp q v W) (h' : QNp q' v' W) (e : q = q') : Calls Tryd.prog 36 #[v, v'] W (Ret W (fB true).toSF) := by
  subst e
  exact l7same_t h h'
theorem rof_w {W : World} {v : Value} (z : Int) (hv : v = .int .i64 z) (hz : -9223372036854775808 ≤ z ∧ z ≤ 9223372036854775807) : Calls Tryd.prog 37 #[v] W (Ret W (fQN (z : Rat)).toSF) := by
  subst hv
  exact rof_v z hz
theorem s_rats1 (s0 : Bool) (A0 D0 : Option Addr) (n0 c0 i0 j0 : Nat) : sliceCells Tryd.prog 73 1 [(0, .agg #[.bool s0, .slice A0 n0 c0, .slice D0 i0 j0])] = some (43, #[.bool s0, .slice A0 n0 c0, .slice D0 i0 j0]) := by kernel_rfl
theorem sl_qx1 {u : Value} {W : World} {a : QX} (h0 : (fQX a.n a.n' a.k a.d).p u W) : ∃ e cs, sliceCells Tryd.prog 73 1 [(0, u)] = some (e, cs) ∧ (SF.row 3 ([a].map QX.cu)).p (.slice (some ⟨W.heap.size, 0, none⟩) 1 1) (W.alloc (.cells cs e)) := by
  obtain ⟨s0, A0, c0, D0, j0, rfl⟩ := qx_form h0
  refine ⟨_, _, s_rats1 s0 A0 D0 a.n c0 a.n' j0, some ⟨W.heap.size, 0, none⟩, 1, rfl, Nat.le_refl _, by decide, fun e => (by cases e), fun x C hx => ?_⟩
  have hb := alloc_b W (.cells #[.bool s0, .slice A0 a.n c0, .slice D0 a.n' j0] 43)
  have hm := mem_new W #[.bool s0, .slice A0 a.n c0, .slice D0 a.n' j0] 43
  rcases (by have := (List.getElem?_eq_some_iff.1 hx).1; simp at this; omega : x = 0) with rfl
  · obtain rfl : QX.cu a = C := by simpa using hx
    exact ⟨W.heap.size, 0, [.bool s0, .slice A0 a.n c0, .slice D0 a.n' j0], rfl, mem_part (0) hm (fun j u hj => by match j with | 0 => exact hj | 1 => exact hj | 2 => exact hj | j + 3 => simp at hj), (fQX a.n a.n' a.k a.d).toSF.st _ _ _ h0 hb⟩
end Go.Proofs.Wd


namespace Go.Proofs.Wd
open Go.RowKit Lb

end Go.Proofs.Wd


namespace Go.Proofs.Wd
open Go.RowKit Lb

def fLVX (n x : Nat) : UF := .mk' (LVx n x) fun _ _ _ ⟨A, c, l, e, h1, h2, h3⟩ u => ⟨A, c, l, e, h1.keepU u, h2, h3⟩
theorem LVx.lv {n m x : Nat} {v : Value} {W : World} (h : LVx n x v W) (hn : n ≤ m) : LV W m v x := by
  obtain ⟨A, c, l, e, h1, h2, h3⟩ := h
  exact ⟨A, n, c, l, e, h1, h2, hn, h3⟩
theorem qx_abs' {n n' : Nat} {k : Int} {d : Nat} (cs : List Value) (W : World) (h : (CU.agg (fQX n n' k d)).p cs W) : ∃ u, cs[1]? = some u ∧ LVx n k.natAbs u W := by
  obtain ⟨b, s, t, e, ⟨sg, A, c, l, e1, h1, h2, h3⟩, _⟩ := h
  rw [cells3 e]
  have := congrArg Array.toList (agg_inj e1)
  simp at this
  exact ⟨s, rfl, A, c, l, this.2, h1, h2, by rw [← h3, iv_abs]⟩
theorem qx_den' {n n' : Nat} {k : Int} {d : Nat} (cs : List Value) (W : World) (h : (CU.agg (fQX n n' k d)).p cs W) : ∃ u, cs[2]? = some u ∧ LVx n' d u W := by
  obtain ⟨b, s, t, e, _, h1⟩ := h
  rw [cells3 e]
  exact ⟨t, rfl, h1⟩
/-- A sign under which an integer may stand. -/
def SgV (k : Int) (v : Value) : Prop := ∃ s : Bool, v = .bool s ∧ (if s then -(k.natAbs : Int) else k.natAbs) = k
def fSg (k : Int) : UF := .mk' (fun v _ => SgV k v) fun _ _ _ h _ => h
theorem qx_neg {n n' : Nat} {k : Int} {d : Nat} (cs : List Value) (W : World) (h : (CU.agg (fQX n n' k d)).p cs W) : ∃ u, cs[0]? = some u ∧ SgV k u := by
  obtain ⟨b, s, t, e, ⟨sg, A, c, l, e1, h1, h2, h3⟩, _⟩ := h
  rw [cells3 e]
  have := congrArg Array.toList (agg_inj e1)
  simp at this
  exact ⟨b, rfl, sg, this.1, by rw [← h3, iv_abs]; rfl⟩
/-- How long a told natural is. -/
def fLn (x : Nat) : UF := .mk' (fun v _ => ∃ l, Is l x ∧ v = .int .i64 (l.length : Nat)) fun _ _ _ h _ => h
section
variable {F : Fence} {m : Nat} {P : Program} {w0 : World} {ops : Array Oper} {G : Nat → SF} {d : Tmp} {ty : TypeId} {pos : String} {aft : Array Edge}
theorem ok_lenL {x : Operand} {t : TypeId} {k : Nat} (ht : P.underlying t = some (.slice (P.elem t))) (hx : ∀ v W, (fct G x).p v W → NatV W v k) (hd : ∀ v W, (fLn k).p v W → (G d).p v W := by exact fun _ _ h => h) : GdOK F m P w0 ops G ⟨some d, .call ⟨.builtin .len, #[x], #[t]⟩, ty, pos, aft, none⟩ :=
  ok_len ht fun v W h => by
    obtain ⟨A, n, c, l, e, h1, h2⟩ := hx v W h
    exact ⟨A, n, c, e, hd _ _ ⟨l, h1, by rw [h2.len]⟩⟩
/-- Two told forms of one number have one length. -/
theorem ok_neqL {t t' : TypeId} {x y : Operand} {k : Nat} (hx : ∀ v W, (fct G x).p v W → (fLn k).p v W) (hy : ∀ v W, (fct G y).p v W → (fLn k).p v W) (hd : ∀ W, (G d).p (.bool false) W := by exact fun _ => rfl) : GdOK F m P w0 ops G ⟨some d, .binOp .neq t x y t', ty, pos, aft, none⟩ :=
  ok_bin' fun u v W h h' => by
    obtain ⟨l, h1, rfl⟩ := hx u W h
    obtain ⟨l', h1', rfl⟩ := hy v W h'
    have : l = l' := h1.inj h1'
    subst this
    exact ⟨.bool false, fun W => by simp [eqGuard], fun W => by simp [binOp, Op.intCmp], hd _⟩
/-- Is it nought? -/
theorem ok_eqlL0 {t t' : TypeId} {x : Operand} {k : Nat} (b : Bool) (hb : decide (k = 0) = b) (hx : ∀ v W, (fct G x).p v W → (fLn k).p v W) (hd : ∀ W, (G d).p (.bool b) W := by exact fun _ => rfl) : GdOK F m P w0 ops G ⟨some d, .binOp .eql t x (.const (.int .i64 0)) t', ty, pos, aft, none⟩ :=
  ok_bin' fun u v W h h' => by
    obtain ⟨l, h1, rfl⟩ := hx u W h
    have h2 : v = .int .i64 0 := h'
    subst h2
    refine ⟨.bool b, fun W => by simp [eqGuard], fun W => ?_, hd _⟩
    have h3 := h1.zero_iff
    have : ((l.length : Int) == 0) = b := by
      rw [← hb]
      show decide ((l.length : Int) = 0) = decide (k = 0)
      exact decide_eq_decide.2 (by omega)
    simp [binOp, Op.intCmp, this]
end

theorem r1same_e {W : World} {v v' : Value} {x y : Nat} (h : NatV W v x) (h' : NatV W v' y) (e : x = y) : Calls Tryd.prog 35 #[v, v'] W (Ret W (fB true).toSF) := by
  subst e
  exact r1same_t h h'
theorem den_one {q : Rat} (e : (q.num.sign == 0) = true) : q.den = 1 := by
  have h1 : q.num = 0 := Int.sign_eq_zero_iff_zero.1 (by simpa using e)
  rw [Rat.num_eq_zero.1 h1]
  rfl
theorem bInt2 (s : Bool) (A : Option Addr) (n c : Nat) : Tryd.prog.built 41 [(0, .bool s), (1, .slice A n c)] = some #[.bool s, .slice A n c] := by kernel_rfl
theorem b_intS {u v : Value} {W : World} {k : Int} {t m : Nat} (hu : SgV k u) (hv : NatV W v (k.natAbs * t)) (hb : k.natAbs * t < BB ^ m) : ∃ cells, Tryd.prog.built 41 [(0, u), (1, v)] = some cells ∧ UV W m (.agg cells) (k * t) := by
  obtain ⟨s, rfl, hs⟩ := hu
  obtain ⟨A, n, c, l, rfl, h1, h2⟩ := hv
  refine ⟨_, bInt2 _ _ _ _, s, A, n, c, l, rfl, h2, h1.lt, by rw [← h2.len]; exact h1.len hb, ?_⟩
  unfold iv
  rw [h1.val]
  rw [← hs]
  cases s
  · simp
  · simp [Int.neg_mul]
theorem rcmp_t {W : World} {m : Nat} {v v' : Value} {a b : Nat} (h : LV W m v a) (h' : LV W m v' b) : Calls Tryd.prog 20 #[v, v'] W (Ret W (fI (cmpOf a b)).toSF) := (rcmp_v h h').mono fun e w' ⟨h1, h2⟩ => ⟨_, h1, rfl, by subst h2; exact Below.refl _ _⟩
theorem qv_rv {m : Nat} {k : Int} {d : Nat} {v : Value} {W : World} (h : QVp m k d v W) : RVp m (mkRat k d) v W := ⟨k, d, h, rfl⟩
theorem mkRat_cross (k : Int) (d : Nat) (h : 0 < d) : (mkRat k d).num.natAbs * d = k.natAbs * (mkRat k d).den := by
  rw [mkRat_num_abs _ _ h, mkRat_den_eq _ _ h, Nat.mul_comm k.natAbs]
  exact red_swap _ _

theorem QXp.bds {x : QX} {v : Value} {W : World} (h : QXp x.n x.n' x.k x.d v W) (hg : x.n ≤ 40 ∧ x.n' ≤ 40) : x.k.natAbs < BB ^ 40 ∧ x.d < BB ^ 40 := by
  obtain ⟨b, s, t, _, h1, h2⟩ := qx_qv h hg.1 hg.2
  exact ⟨h1.bound, h2.bound⟩
theorem cmpOf_le {a b : Nat} (h : a ≤ b) : ¬ cmpOf a b > 0 := by
  unfold cmpOf
  split
  · omega
  · rw [if_neg (by omega)]
    omega
theorem neq0_f {u : Int} (h : u = 0) : (u != 0) = false := by simp [h]

set_option maxRecDepth 100000 in
set_option maxHeartbeats 1000000 in
theorem ratnorm_t {W : World} {u v : Value} {xr : QX} {nt xt : Nat} (hxr : QXp xr.n xr.n' xr.k xr.d u W) (hxt : LVx nt xt v W) (hL : ∀ x, x ∈ [xr] → x.n + x.n' < 9223372036854775808) (hT : Tab W) : Calls Tryd.prog 8 #[u, v] W (Ret W (fB true).toSF) := by
  have hmix : Tryd.prog.follows .mixedOrders = true := by kernel_rfl
  have en_31 : Enters Tryd.prog 31 := enters_of Tryd.func31 (by kernel_rfl) rfl
  have en_37 : Enters Tryd.prog 37 := enters_of Tryd.func37 (by kernel_rfl) rfl
  have en_38 : Enters Tryd.prog 38 := enters_of Tryd.func38 (by kernel_rfl) rfl
  have en_36 : Enters Tryd.prog 36 := enters_of Tryd.func36 (by kernel_rfl) rfl
  have en_30 : Enters Tryd.prog 30 := enters_of Tryd.func30 (by kernel_rfl) rfl
  have en_20 : Enters Tryd.prog 20 := enters_of Tryd.func20 (by kernel_rfl) rfl
  have en_35 : Enters Tryd.prog 35 := enters_of Tryd.func35 (by kernel_rfl) rfl
  have en_15 : Enters Tryd.prog 15 := enters_of Tryd.func15 (by kernel_rfl) rfl
  have en_14 : Enters Tryd.prog 14 := enters_of Tryd.func14 (by kernel_rfl) rfl
  have en_33 : Enters Tryd.prog 33 := enters_of Tryd.func33 (by kernel_rfl) rfl
  have en_34 : Enters Tryd.prog 34 := enters_of Tryd.func34 (by kernel_rfl) rfl
  have en_32 : Enters Tryd.prog 32 := enters_of Tryd.func32 (by kernel_rfl) rfl
  have en_29 : Enters Tryd.prog 29 := enters_of Tryd.func29 (by kernel_rfl) rfl
  refine run_st [(fQX xr.n xr.n' xr.k xr.d).toSF, (fLVX nt xt).toSF] Tryd.func8 rfl (by kernel_rfl) ⟨hxr, hxt, trivial⟩ fun a s => ?_
  refine wpIn_seq ?_
  refine region_go 0 [] hmix s (by kernel_rfl)
    obs_nil fun a w1 s => ?_
  refine t_box (QX.cu xr) rfl s (by kernel_rfl) (fun v W h => qx_box h) fun b2 a w s => ?_
  refine t_set (UF.eq (.bool false)) rfl s (by kernel_rfl) (fun _ _ h => h) fun a w s => ?_
  refine tail_end rfl ?_
  refine wpIn_seq ?_
  refine wpIn_seq ?_
  refine region_go 8 ((9, .s ((fQX xr.n xr.n' xr.k xr.d).toSF)) :: (10, .s (SF.row 3 (([xr]).map QX.cu))) :: (11, .s ((UF.eq (.bool (gq [xr]))).toSF)) :: (12, .s ((UF.eq (.bool (gq [xr]))).toSF)) :: (13, .s (SF.imp ((gq [xr]) = false) ((fLVX (nt) (xt)).toSF))) :: (14, .s (SF.imp ((gq [xr]) = false) ((UF.eq (.int .i64 (((nt : Nat) : Int)))).toSF))) :: (15, .s (SF.imp ((gq [xr]) = false) ((UF.eq (.bool (decide (((nt : Nat) : Int) > 4)))).toSF))) :: (16, .u (UF.eq (.bool ((gq [xr]) || (decide (((nt : Nat) : Int) > 4)))))) :: []) hmix s (by kernel_rfl)
    (obs_cons (ok_ldW (f := fQX xr.n xr.n' xr.k xr.d) 3 (by kernel_rfl) (hz := qx_len _ _ _ _)) <|
    obs_cons (ok_slice1 (fun u W (hu : QXp xr.n xr.n' xr.k xr.d u W) => sl_qx1 hu)) <|
    obs_cons (ok_call1 wide_wide en_29 (fun u0 W hb h0 => r7great_t h0 hL)) <|
    obs_cons (ok_move) <|
    obs_cons (ok_guard 12 (gq [xr]) (by kernel_rfl) (fun _ _ h => h) (fun e => gd_imp [] ((fLVX (nt) (xt)).toSF) (List.forall_mem_nil _) (fun _ _ h _ => h) (by kernel_rfl) (ok_move)) (fun e W h => absurd h e)) <|
    obs_cons (ok_guard 12 (gq [xr]) (by kernel_rfl) (fun _ _ h => h) (fun e => gd_imp [(13, (fLVX (nt) (xt)).toSF)] ((UF.eq (.int .i64 (((nt : Nat) : Int)))).toSF) (List.forall_mem_cons.2 ⟨fun v W h => imp_app (c := (gq [xr]) = false) (f := (fLVX (nt) (xt)).toSF) e h, List.forall_mem_nil _⟩) (fun _ _ h _ => h) (by kernel_rfl) (ok_len (by kernel_rfl) (fun v W ⟨A, c, l, e, _⟩ => ⟨A, nt, c, e, rfl⟩))) (fun e W h => absurd h e)) <|
    obs_cons (ok_guard 12 (gq [xr]) (by kernel_rfl) (fun _ _ h => h) (fun e => gd_imp [(14, (UF.eq (.int .i64 (((nt : Nat) : Int)))).toSF)] ((UF.eq (.bool (decide (((nt : Nat) : Int) > 4)))).toSF) (List.forall_mem_cons.2 ⟨fun v W h => imp_app (c := (gq [xr]) = false) (f := (UF.eq (.int .i64 (((nt : Nat) : Int)))).toSF) e h, List.forall_mem_nil _⟩) (fun _ _ h _ => h) (by kernel_rfl) (ok_cmpI .i64 (((nt : Nat) : Int)) (4) (decide (((nt : Nat) : Int) > 4)) (fun _ _ h => h) (fun _ _ h => h) rfl rfl)) (fun e W h => absurd h e)) <|
    obs_cons (ok_pick (gq [xr]) (fun _ _ h => h) (fun e v W h => pick_or h e) (fun e v W h => pick_or' (imp_app e h) e)) <| obs_nil) fun a w2 s => ?_
  refine tail_end rfl ?_
  refine StS.cond s ((gq [xr]) || (decide (((nt : Nat) : Int) > 4))) (fun _ _ h => h) (fun e => ?_) (fun e => ?_)
  · refine wpIn_seq ?_
    replace s := s.drop [4]
    refine region_go 2 ((17, .s ((UF.eq (.bool true)).toSF)) :: (4, .u (UF.eq (.bool true))) :: []) hmix s (by kernel_rfl)
      (obs_cons (ok_call0 wide_wide en_30 (fun W hb => l7wakes_t (hT.below (s.up hb)))) <|
      obs_cons (ok_assign) <| obs_nil) fun a w3 s => ?_
    refine tail_end rfl ?_
    refine wpIn_ret ?_
    exact StS.res1 s (t := 4) rfl (fun _ _ h => h)
  · rw [Bool.or_eq_false_iff] at e
    have hg := gq_false e.1
    have gxr := hg xr (by simp)
    have hqxr := hxr.qb gxr
    have gt := of_decide_eq_false e.2
    obtain ⟨hbk, hbd⟩ := QXp.bds hxr gxr
    have hbt : xt < BB ^ 4 := (LVx.lv hxt (by omega)).bound
    refine wpIn_skip ?_
    refine wpIn_seq ?_
    refine region_go 2 ((18, .s ((fQX xr.n xr.n' xr.k xr.d).toSF)) :: (19, .u (fQN (xr.q))) :: []) hmix s (by kernel_rfl)
      (obs_cons (ok_ldW (f := fQX xr.n xr.n' xr.k xr.d) 3 (by kernel_rfl) (hz := qx_len _ _ _ _)) <|
      obs_cons (ok_call1 wide_wide en_31 (fun u0 W hb (h0 : QXp xr.n xr.n' xr.k xr.d u0 W) => rNorm_q (rv_x (m := 40) h0 (by omega) (by omega)) (by omega) (by omega) (hT.below (s.up hb)))) <| obs_nil) fun a w4 s => ?_
    refine t_alloc (CU.len 3) (cs := [.bool false, .slice none 0 0, .slice none 0 0]) (by kernel_rfl) rfl s (by kernel_rfl) (fun W => rfl) rfl fun b5 a w s => ?_
    refine t_store (CU.agg (fQN (xr.q))) ((fQN (xr.q)).toSF) rfl s (by kernel_rfl) rfl rfl rfl (fun _ _ h => h) (fun _ _ h => h) (qn_store) fun a w s => ?_
    refine tail_end rfl ?_
    refine wpIn_seq ?_
    refine wpIn_seq ?_
    refine region_go 24 ((20, .s (SF.ptr ((CU.agg (fQN (xr.q))).cf.at 2))) :: (21, .s ((fNat ((xr.q).den)).toSF)) :: (22, .s ((fNat ((xr.q).den)).toSF)) :: (23, .s ((fLn ((xr.q).den)).toSF)) :: (24, .s ((UF.eq (.bool false)).toSF)) :: (25, .s ((UF.eq (.bool false)).toSF)) :: (26, .s (SF.ptr ((CU.agg (fQN (xr.q))).cf.at 2))) :: (27, .s ((fNat ((xr.q).den)).toSF)) :: (28, .s ((fNat ((xr.q).den)).toSF)) :: (29, .s ((fLn ((xr.q).den)).toSF)) :: (30, .s (SF.ptr ((CU.agg (fQN (xr.q))).cf.at 2))) :: (31, .s ((fNat ((xr.q).den)).toSF)) :: (32, .s ((fLn ((xr.q).den)).toSF)) :: (33, .s ((UF.eq (.bool false)).toSF)) :: (34, .s ((UF.eq (.bool false)).toSF)) :: (35, .s ((UF.eq (.bool false)).toSF)) :: (36, .s (SF.ptr ((CU.agg (fQN (xr.q))).cf.at 0))) :: (37, .s ((fNV ((xr.q).num)).toSF)) :: (38, .s (SF.ptr ((CU.agg (fQN (xr.q))).cf.at 0))) :: (39, .s ((fNV ((xr.q).num)).toSF)) :: (40, .s ((fNV ((xr.q).num)).toSF)) :: (41, .s ((UF.eq (.bool true)).toSF)) :: (42, .s ((UF.eq (.bool false)).toSF)) :: (43, .u (UF.eq (.bool false))) :: []) hmix s (by kernel_rfl)
      (obs_cons (ok_fld (C := (CU.agg (fQN (xr.q))).cf) 2 (by kernel_rfl)) <|
      obs_cons (ok_ld (C := (CU.agg (fQN (xr.q))).cf) (k := 2) (by kernel_rfl) (h := qn_den)) <|
      obs_cons (ok_call1 wide_wide en_15 (fun u0 W hb (h0 : NatV W u0 ((xr.q).den)) => rtrim_v (m := 40) (NatV.lv (m := 40) h0 (Nat.lt_of_lt_of_le hqxr.2 (Nat.pow_le_pow_right BB_pos (by omega)))) (by omega))) <|
      obs_cons (ok_lenL (by kernel_rfl) (fun _ _ h => h)) <|
      obs_cons (ok_eqlL0 false (decide_eq_false (by have := xr.q.den_pos; omega)) (fun _ _ h => h)) <|
      obs_cons (ok_move) <|
      obs_cons (ok_guard 25 false (by kernel_rfl) (fun _ _ h => h) (fun _ => ok_fld (C := (CU.agg (fQN (xr.q))).cf) 2 (by kernel_rfl)) (fun e => absurd rfl e)) <|
      obs_cons (ok_guard 25 false (by kernel_rfl) (fun _ _ h => h) (fun _ => ok_ld (C := (CU.agg (fQN (xr.q))).cf) (k := 2) (by kernel_rfl) (h := qn_den)) (fun e => absurd rfl e)) <|
      obs_cons (ok_guard 25 false (by kernel_rfl) (fun _ _ h => h) (fun _ => ok_call1 wide_wide en_15 (fun u0 W hb (h0 : NatV W u0 ((xr.q).den)) => rtrim_v (m := 40) (NatV.lv (m := 40) h0 (Nat.lt_of_lt_of_le hqxr.2 (Nat.pow_le_pow_right BB_pos (by omega)))) (by omega))) (fun e => absurd rfl e)) <|
      obs_cons (ok_guard 25 false (by kernel_rfl) (fun _ _ h => h) (fun _ => ok_lenL (by kernel_rfl) (fun _ _ h => h)) (fun e => absurd rfl e)) <|
      obs_cons (ok_guard 25 false (by kernel_rfl) (fun _ _ h => h) (fun _ => ok_fld (C := (CU.agg (fQN (xr.q))).cf) 2 (by kernel_rfl)) (fun e => absurd rfl e)) <|
      obs_cons (ok_guard 25 false (by kernel_rfl) (fun _ _ h => h) (fun _ => ok_ld (C := (CU.agg (fQN (xr.q))).cf) (k := 2) (by kernel_rfl) (h := qn_den)) (fun e => absurd rfl e)) <|
      obs_cons (ok_guard 25 false (by kernel_rfl) (fun _ _ h => h) (fun _ => ok_lenL (by kernel_rfl) (fun _ _ h => h)) (fun e => absurd rfl e)) <|
      obs_cons (ok_guard 25 false (by kernel_rfl) (fun _ _ h => h) (fun _ => ok_neqL (k := (xr.q).den) (fun _ _ h => h) (fun _ _ h => h)) (fun e => absurd rfl e)) <|
      obs_cons (ok_pick false (fun _ _ h => h) (fun e => by cases e) (fun _ _ _ h => h)) <|
      obs_cons (ok_move) <|
      obs_cons (ok_guard 35 false (by kernel_rfl) (fun _ _ h => h) (fun _ => ok_fld (C := (CU.agg (fQN (xr.q))).cf) 0 (by kernel_rfl)) (fun e => absurd rfl e)) <|
      obs_cons (ok_guard 35 false (by kernel_rfl) (fun _ _ h => h) (fun _ => ok_ldA (C := (CU.agg (fQN (xr.q))).cf) (k := 0) 2 (by kernel_rfl) (h := qn_num)) (fun e => absurd rfl e)) <|
      obs_cons (ok_guard 35 false (by kernel_rfl) (fun _ _ h => h) (fun _ => ok_fld (C := (CU.agg (fQN (xr.q))).cf) 0 (by kernel_rfl)) (fun e => absurd rfl e)) <|
      obs_cons (ok_guard 35 false (by kernel_rfl) (fun _ _ h => h) (fun _ => ok_ldA (C := (CU.agg (fQN (xr.q))).cf) (k := 0) 2 (by kernel_rfl) (h := qn_num)) (fun e => absurd rfl e)) <|
      obs_cons (ok_guard 35 false (by kernel_rfl) (fun _ _ h => h) (fun _ => ok_call1 wide_wide en_33 (fun u0 W hb (h0 : NV W u0 ((xr.q).num)) => r5norm_w (m := 40) (NV.uv' (m := 40) h0 hqxr.1) (by omega))) (fun e => absurd rfl e)) <|
      obs_cons (ok_guard 35 false (by kernel_rfl) (fun _ _ h => h) (fun _ => ok_call2 wide_wide en_32 (fun u0 u1 W hb (h0 : NV W u0 ((xr.q).num)) (h1 : NV W u1 ((xr.q).num)) => r5told_t h0 h1)) (fun e => absurd rfl e)) <|
      obs_cons (ok_guard 35 false (by kernel_rfl) (fun _ _ h => h) (fun _ => ok_not (true) (fun _ _ h => h) (fun _ => rfl)) (fun e => absurd rfl e)) <|
      obs_cons (ok_pick false (fun _ _ h => h) (fun e => by cases e) (fun _ _ _ h => h)) <| obs_nil) fun a w5 s => ?_
    refine tail_end rfl ?_
    refine StS.cond s false (fun _ _ h => h) (fun e => by cases e) (fun e => ?_)
    refine wpIn_skip ?_
    refine wpIn_seq ?_
    refine wpIn_seq ?_
    refine region_go 11 ((44, .s (SF.ptr ((CU.agg (fQN (xr.q))).cf.at 0))) :: (45, .s ((fNV ((xr.q).num)).toSF)) :: (46, .s ((UF.eq (.int .i64 (xr.q.num.sign))).toSF)) :: (47, .s ((UF.eq (.bool ((xr.q.num.sign == 0)))).toSF)) :: (48, .s ((UF.eq (.bool ((xr.q.num.sign == 0)))).toSF)) :: (49, .s (SF.imp (((xr.q.num.sign == 0)) = true) (SF.ptr ((CU.agg (fQN (xr.q))).cf.at 2)))) :: (50, .s (SF.imp (((xr.q.num.sign == 0)) = true) ((fNat ((xr.q).den)).toSF))) :: (51, .s (SF.imp (((xr.q.num.sign == 0)) = true) ((fNat (1)).toSF))) :: (52, .s (SF.imp (((xr.q.num.sign == 0)) = true) ((UF.eq (.bool true)).toSF))) :: (53, .s (SF.imp (((xr.q.num.sign == 0)) = true) ((UF.eq (.bool false)).toSF))) :: (54, .u (UF.eq (.bool false))) :: []) hmix s (by kernel_rfl)
      (obs_cons (ok_fld (C := (CU.agg (fQN (xr.q))).cf) 0 (by kernel_rfl)) <|
      obs_cons (ok_ldA (C := (CU.agg (fQN (xr.q))).cf) (k := 0) 2 (by kernel_rfl) (h := qn_num)) <|
      obs_cons (ok_call1 wide_wide en_34 (fun u0 W hb (h0 : NV W u0 ((xr.q).num)) => calls_eq (r5sign_v (m := 40) (NV.uv' (m := 40) h0 hqxr.1) (by omega)))) <|
      obs_cons (ok_cmpI .i64 (xr.q.num.sign) 0 (xr.q.num.sign == 0) (fun _ _ h => h) (fun _ _ h => h) rfl rfl) <|
      obs_cons (ok_move) <|
      obs_cons (ok_guard 48 ((xr.q.num.sign == 0)) (by kernel_rfl) (fun _ _ h => h) (fun e => gd_imp [] (SF.ptr ((CU.agg (fQN (xr.q))).cf.at 2)) (List.forall_mem_nil _) (fun _ _ h _ => h) (by kernel_rfl) (ok_fld (C := (CU.agg (fQN (xr.q))).cf) 2 (by kernel_rfl))) (fun e W h => absurd h e)) <|
      obs_cons (ok_guard 48 ((xr.q.num.sign == 0)) (by kernel_rfl) (fun _ _ h => h) (fun e => gd_imp [(49, SF.ptr ((CU.agg (fQN (xr.q))).cf.at 2))] ((fNat ((xr.q).den)).toSF) (List.forall_mem_cons.2 ⟨fun v W h => imp_app (c := ((xr.q.num.sign == 0)) = true) (f := SF.ptr ((CU.agg (fQN (xr.q))).cf.at 2)) e h, List.forall_mem_nil _⟩) (fun _ _ h _ => h) (by kernel_rfl) (ok_ld (C := (CU.agg (fQN (xr.q))).cf) (k := 2) (by kernel_rfl) (h := qn_den))) (fun e W h => absurd h e)) <|
      obs_cons (ok_guard 48 ((xr.q.num.sign == 0)) (by kernel_rfl) (fun _ _ h => h) (fun e => gd_imp [] ((fNat (1)).toSF) (List.forall_mem_nil _) (fun _ _ h _ => h) (by kernel_rfl) (ok_slice1 (fun u W (hu : u = .int .u32 1) => sl_one hu))) (fun e W h => absurd h e)) <|
      obs_cons (ok_guard 48 ((xr.q.num.sign == 0)) (by kernel_rfl) (fun _ _ h => h) (fun e => gd_imp [(50, (fNat ((xr.q).den)).toSF), (51, (fNat (1)).toSF)] ((UF.eq (.bool true)).toSF) (List.forall_mem_cons.2 ⟨fun v W h => imp_app (c := ((xr.q.num.sign == 0)) = true) (f := (fNat ((xr.q).den)).toSF) e h, List.forall_mem_cons.2 ⟨fun v W h => imp_app (c := ((xr.q.num.sign == 0)) = true) (f := (fNat (1)).toSF) e h, List.forall_mem_nil _⟩⟩) (fun _ _ h _ => h) (by kernel_rfl) (ok_call2 wide_wide en_35 (fun u0 u1 W hb (h0 : NatV W u0 ((xr.q).den)) (h1 : NatV W u1 (1)) => r1same_e h0 h1 (den_one e)))) (fun e W h => absurd h e)) <|
      obs_cons (ok_guard 48 ((xr.q.num.sign == 0)) (by kernel_rfl) (fun _ _ h => h) (fun e => gd_imp [(52, (UF.eq (.bool true)).toSF)] ((UF.eq (.bool false)).toSF) (List.forall_mem_cons.2 ⟨fun v W h => imp_app (c := ((xr.q.num.sign == 0)) = true) (f := (UF.eq (.bool true)).toSF) e h, List.forall_mem_nil _⟩) (fun _ _ h _ => h) (by kernel_rfl) (ok_not (true) (fun _ _ h => h) (fun _ => rfl))) (fun e W h => absurd h e)) <|
      obs_cons (ok_pick ((xr.q.num.sign == 0)) (fun _ _ h => h) (fun e v W h => imp_app e h) (fun e v W h => h)) <| obs_nil) fun a w6 s => ?_
    refine tail_end rfl ?_
    refine StS.cond s false (fun _ _ h => h) (fun e => by cases e) (fun e => ?_)
    refine wpIn_skip ?_
    refine wpIn_seq ?_
    refine wpIn_seq ?_
    refine region_go 5 ((55, .s (SF.ptr ((QX.cu xr).cf.at 2))) :: (56, .s ((fLVX (xr.n') (xr.d)).toSF)) :: (57, .s ((fNat (xr.d)).toSF)) :: (58, .s ((fLn (xr.d)).toSF)) :: (59, .u (UF.eq (.bool (decide (xr.d = 0))))) :: []) hmix s (by kernel_rfl)
      (obs_cons (ok_fld (C := (QX.cu xr).cf) 2 (by kernel_rfl)) <|
      obs_cons (ok_ld (C := (QX.cu xr).cf) (k := 2) (by kernel_rfl) (h := qx_den')) <|
      obs_cons (ok_call1 wide_wide en_15 (fun u0 W hb (h0 : LVx (xr.n') (xr.d) u0 W) => rtrim_v (m := 40) (LVx.lv h0 (m := 40) (by omega)) (by omega))) <|
      obs_cons (ok_lenL (by kernel_rfl) (fun _ _ h => h)) <|
      obs_cons (ok_eqlL0 (decide (xr.d = 0)) rfl (fun _ _ h => h)) <| obs_nil) fun a w7 s => ?_
    refine tail_end rfl ?_
    refine StS.cond s (decide (xr.d = 0)) (fun _ _ h => h) (fun e => ?_) (fun e => ?_)
    · have hz := of_decide_eq_true e
      have hq0 : xr.q = ((0 : Int) : Rat) := by show mkRat xr.k xr.d = _; rw [hz]; exact Rat.mkRat_zero _
      refine wpIn_seq ?_
      replace s := s.drop [4]
      refine region_go 7 ((60, .s ((fQN (xr.q)).toSF)) :: (61, .s ((fQN ((((0) : Int) : Rat))).toSF)) :: (62, .s ((UF.eq (.bool true)).toSF)) :: (63, .s ((UF.eq (.bool true)).toSF)) :: (64, .s ((UF.eq (.bool true)).toSF)) :: (65, .s ((UF.eq (.bool true)).toSF)) :: (4, .u (UF.eq (.bool true))) :: []) hmix s (by kernel_rfl)
        (obs_cons (ok_ldW (f := fQN (xr.q)) 3 (by kernel_rfl) (hz := qn_len _)) <|
        obs_cons (ok_call1 wide_wide en_37 (fun u0 W hb (h0 : u0 = .int .i64 (0)) => rof_w (0) h0 (by decide))) <|
        obs_cons (ok_call2 wide_wide en_36 (fun u0 u1 W hb (h0 : QNp (xr.q) u0 W) (h1 : QNp ((((0) : Int) : Rat)) u1 W) => l7same_e h0 h1 (by first | exact hq0 | exact hq1 | rfl))) <|
        obs_cons (ok_move) <|
        obs_cons (ok_guard 63 true (by kernel_rfl) (fun _ _ h => h) (fun _ => ok_call0 wide_wide en_30 (fun W hb => l7wakes_t (hT.below (s.up hb)))) (fun e => absurd rfl e)) <|
        obs_cons (ok_pick true (fun _ _ h => h) (fun _ _ _ h => h) (fun e => by cases e)) <|
        obs_cons (ok_assign) <| obs_nil) fun a w8 s => ?_
      refine tail_end rfl ?_
      refine wpIn_ret ?_
      exact StS.res1 s (t := 4) rfl (fun _ _ h => h)
    · have hd0 : 0 < xr.d := by have := of_decide_eq_false e; omega
      refine wpIn_skip ?_
      refine wpIn_seq ?_
      refine region_go 7 ((66, .s (SF.ptr ((CU.agg (fQN (xr.q))).cf.at 0))) :: (67, .s (SF.ptr ((CU.agg (fQN (xr.q))).cf.at 1))) :: (68, .s ((fNat ((xr.q).num.natAbs)).toSF)) :: (69, .s (SF.ptr ((QX.cu xr).cf.at 2))) :: (70, .s ((fLVX (xr.n') (xr.d)).toSF)) :: (71, .s ((fNat ((xr.q.num.natAbs * xr.d))).toSF)) :: (6, .u (fNat ((xr.q.num.natAbs * xr.d)))) :: []) hmix s (by kernel_rfl)
        (obs_cons (ok_fld (C := (CU.agg (fQN (xr.q))).cf) 0 (by kernel_rfl)) <|
        obs_cons (ok_fldn (C := (CU.agg (fQN (xr.q))).cf) 0 1 (by kernel_rfl)) <|
        obs_cons (ok_ld (C := (CU.agg (fQN (xr.q))).cf) (k := 1) (by kernel_rfl) (h := qn_abs)) <|
        obs_cons (ok_fld (C := (QX.cu xr).cf) 2 (by kernel_rfl)) <|
        obs_cons (ok_ld (C := (QX.cu xr).cf) (k := 2) (by kernel_rfl) (h := qx_den')) <|
        obs_cons (ok_call2 wide_wide en_14 (fun u0 u1 W hb (h0 : NatV W u0 ((xr.q).num.natAbs)) (h1 : LVx (xr.n') (xr.d) u1 W) => rmul_v (m := 40) (NatV.lv (m := 40) h0 (Nat.lt_of_lt_of_le hqxr.1 (Nat.pow_le_pow_right BB_pos (by omega)))) (LVx.lv h1 (m := 40) (by omega)) (by omega))) <|
        obs_cons (ok_assign) <| obs_nil) fun a w9 s => ?_
      refine tail_end rfl ?_
      refine wpIn_seq ?_
      refine region_go 7 ((72, .s (SF.ptr ((QX.cu xr).cf.at 0))) :: (73, .s (SF.ptr ((QX.cu xr).cf.at 1))) :: (74, .s ((fLVX (xr.n) (xr.k.natAbs)).toSF)) :: (75, .s (SF.ptr ((CU.agg (fQN (xr.q))).cf.at 2))) :: (76, .s ((fNat ((xr.q).den)).toSF)) :: (77, .s ((fNat ((xr.k.natAbs * xr.q.den))).toSF)) :: (7, .u (fNat ((xr.k.natAbs * xr.q.den)))) :: []) hmix s (by kernel_rfl)
        (obs_cons (ok_fld (C := (QX.cu xr).cf) 0 (by kernel_rfl)) <|
        obs_cons (ok_fldn (C := (QX.cu xr).cf) 0 1 (by kernel_rfl)) <|
        obs_cons (ok_ld (C := (QX.cu xr).cf) (k := 1) (by kernel_rfl) (h := qx_abs')) <|
        obs_cons (ok_fld (C := (CU.agg (fQN (xr.q))).cf) 2 (by kernel_rfl)) <|
        obs_cons (ok_ld (C := (CU.agg (fQN (xr.q))).cf) (k := 2) (by kernel_rfl) (h := qn_den)) <|
        obs_cons (ok_call2 wide_wide en_14 (fun u0 u1 W hb (h0 : LVx (xr.n) (xr.k.natAbs) u0 W) (h1 : NatV W u1 ((xr.q).den)) => rmul_v (m := 40) (LVx.lv h0 (m := 40) (by omega)) (NatV.lv (m := 40) h1 (Nat.lt_of_lt_of_le hqxr.2 (Nat.pow_le_pow_right BB_pos (by omega)))) (by omega))) <|
        obs_cons (ok_assign) <| obs_nil) fun a w10 s => ?_
      refine tail_end rfl ?_
      refine wpIn_seq ?_
      refine wpIn_seq ?_
      refine region_go 12 ((78, .s ((fNat ((xr.q.num.natAbs * xr.d))).toSF)) :: (79, .s ((fNat ((xr.k.natAbs * xr.q.den))).toSF)) :: (80, .s ((UF.eq (.int .i64 ((cmpOf (xr.q.num.natAbs * xr.d) (xr.k.natAbs * xr.q.den))))).toSF)) :: (81, .s ((UF.eq (.bool false)).toSF)) :: (82, .s ((UF.eq (.bool false)).toSF)) :: (83, .s (SF.ptr ((CU.agg (fQN (xr.q))).cf.at 2))) :: (84, .s ((fNat ((xr.q).den)).toSF)) :: (85, .s (SF.ptr ((QX.cu xr).cf.at 2))) :: (86, .s ((fLVX (xr.n') (xr.d)).toSF)) :: (87, .s ((UF.eq (.int .i64 ((cmpOf (xr.q.den) (xr.d))))).toSF)) :: (88, .s ((UF.eq (.bool false)).toSF)) :: (89, .u (UF.eq (.bool false))) :: []) hmix s (by kernel_rfl)
        (obs_cons (ok_move) <|
        obs_cons (ok_move) <|
        obs_cons (ok_call2 wide_wide en_20 (fun u0 u1 W hb (h0 : NatV W u0 ((xr.q.num.natAbs * xr.d))) (h1 : NatV W u1 ((xr.k.natAbs * xr.q.den))) => rcmp_t (m := 80) (NatV.lv (m := 80) h0 (Nat.lt_of_lt_of_le (pow_mul_lt hqxr.1 hbd) (Nat.pow_le_pow_right BB_pos (by omega)))) (NatV.lv (m := 80) h1 (Nat.lt_of_lt_of_le (pow_mul_lt hbk hqxr.2) (Nat.pow_le_pow_right BB_pos (by omega)))))) <|
        obs_cons (ok_cmpI .i64 ((cmpOf (xr.q.num.natAbs * xr.d) (xr.k.natAbs * xr.q.den))) (0) false (fun _ _ h => h) (fun _ _ h => h) (by exact neq0_f (cmpOf_eq (mkRat_cross _ _ hd0))) rfl) <|
        obs_cons (ok_move) <|
        obs_cons (ok_guard 82 false (by kernel_rfl) (fun _ _ h => h) (fun _ => ok_fld (C := (CU.agg (fQN (xr.q))).cf) 2 (by kernel_rfl)) (fun e => absurd rfl e)) <|
        obs_cons (ok_guard 82 false (by kernel_rfl) (fun _ _ h => h) (fun _ => ok_ld (C := (CU.agg (fQN (xr.q))).cf) (k := 2) (by kernel_rfl) (h := qn_den)) (fun e => absurd rfl e)) <|
        obs_cons (ok_guard 82 false (by kernel_rfl) (fun _ _ h => h) (fun _ => ok_fld (C := (QX.cu xr).cf) 2 (by kernel_rfl)) (fun e => absurd rfl e)) <|
        obs_cons (ok_guard 82 false (by kernel_rfl) (fun _ _ h => h) (fun _ => ok_ld (C := (QX.cu xr).cf) (k := 2) (by kernel_rfl) (h := qx_den')) (fun e => absurd rfl e)) <|
        obs_cons (ok_guard 82 false (by kernel_rfl) (fun _ _ h => h) (fun _ => ok_call2 wide_wide en_20 (fun u0 u1 W hb (h0 : NatV W u0 ((xr.q).den)) (h1 : LVx (xr.n') (xr.d) u1 W) => rcmp_t (m := 80) (NatV.lv (m := 80) h0 (Nat.lt_of_lt_of_le hqxr.2 (Nat.pow_le_pow_right BB_pos (by omega)))) (LVx.lv h1 (m := 80) (by omega)))) (fun e => absurd rfl e)) <|
        obs_cons (ok_guard 82 false (by kernel_rfl) (fun _ _ h => h) (fun _ => ok_cmpI .i64 ((cmpOf (xr.q.den) (xr.d))) (0) false (fun _ _ h => h) (fun _ _ h => h) (by exact decide_eq_false (cmpOf_le (mkRat_den_le _ _ hd0))) rfl) (fun e => absurd rfl e)) <|
        obs_cons (ok_pick false (fun _ _ h => h) (fun e => by cases e) (fun _ _ _ h => h)) <| obs_nil) fun a w11 s => ?_
      refine tail_end rfl ?_
      refine StS.cond s false (fun _ _ h => h) (fun e => by cases e) (fun e => ?_)
      refine wpIn_skip ?_
      refine wpIn_seq ?_
      refine wpIn_seq ?_
      refine region_go 4 ((90, .s ((fLVX (nt) (xt)).toSF)) :: (91, .s ((fNat (xt)).toSF)) :: (92, .s ((fLn (xt)).toSF)) :: (93, .u (UF.eq (.bool (decide (xt = 0))))) :: []) hmix s (by kernel_rfl)
        (obs_cons (ok_move) <|
        obs_cons (ok_call1 wide_wide en_15 (fun u0 W hb (h0 : LVx (nt) (xt) u0 W) => rtrim_v (m := 40) (LVx.lv h0 (m := 40) (by omega)) (by omega))) <|
        obs_cons (ok_lenL (by kernel_rfl) (fun _ _ h => h)) <|
        obs_cons (ok_eqlL0 (decide (xt = 0)) rfl (fun _ _ h => h)) <| obs_nil) fun a w12 s => ?_
      refine tail_end rfl ?_
      refine StS.cond s (decide (xt = 0)) (fun _ _ h => h) (fun e => ?_) (fun e => ?_)
      · refine wpIn_seq ?_
        replace s := s.drop [4]
        refine region_go 2 ((94, .s ((UF.eq (.bool true)).toSF)) :: (4, .u (UF.eq (.bool true))) :: []) hmix s (by kernel_rfl)
          (obs_cons (ok_call0 wide_wide en_30 (fun W hb => l7wakes_t (hT.below (s.up hb)))) <|
          obs_cons (ok_assign) <| obs_nil) fun a w13 s => ?_
        refine tail_end rfl ?_
        refine wpIn_ret ?_
        exact StS.res1 s (t := 4) rfl (fun _ _ h => h)
      · have ht0 : 0 < xt := by have := of_decide_eq_false e; omega
        have hq1 : mkRat (xr.k * xt) (xr.d * xt) = xr.q := Rat.mkRat_mul_right (by omega)
        refine wpIn_skip ?_
        refine wpIn_seq ?_
        have so := s.old; have sg := s.gr
        refine region_goA [⟨14, 8, 43, [.bool false, .slice none 0 0, .slice none 0 0], SF.newBox w12 43 (CU.len 3)⟩] 15 ((95, .s (SF.ptr ((QX.cu xr).cf.at 0))) :: (96, .s (SF.ptr ((QX.cu xr).cf.at 0))) :: (97, .s ((fSg xr.k).toSF)) :: (98, .s (SF.ptr ((QX.cu xr).cf.at 0))) :: (99, .s (SF.ptr ((QX.cu xr).cf.at 1))) :: (100, .s ((fLVX (xr.n) (xr.k.natAbs)).toSF)) :: (101, .s ((fLVX (nt) (xt)).toSF)) :: (102, .s ((fNat ((xr.k.natAbs * xt))).toSF)) :: (103, .s ((fUV (44) ((xr.k * xt))).toSF)) :: (104, .s (SF.ptr ((QX.cu xr).cf.at 2))) :: (105, .s ((fLVX (xr.n') (xr.d)).toSF)) :: (106, .s ((fLVX (nt) (xt)).toSF)) :: (107, .s ((fNat ((xr.d * xt))).toSF)) :: (108, .u (fQV (44) ((xr.k * xt)) ((xr.d * xt)))) :: (8, .s (SF.newBox w12 43 (CU.len 3))) :: []) hmix s (List.forall_mem_cons.2 ⟨⟨by show 14 < 15; decide, .tail _ (.tail _ (.tail _ (.tail _ (.tail _ (.tail _ (.tail _ (.tail _ (.tail _ (.tail _ (.tail _ (.tail _ (.tail _ (.tail _ (.head _)))))))))))))), ⟨_, _, _, rfl⟩, by kernel_rfl, own_new (fun _ => rfl) rfl⟩, List.forall_mem_nil _⟩) (by kernel_rfl)
          (obs_cons (ok_fld (C := (QX.cu xr).cf) 0 (by kernel_rfl)) <|
          obs_cons (ok_fldn (C := (QX.cu xr).cf) 0 0 (by kernel_rfl)) <|
          obs_cons (ok_ld (C := (QX.cu xr).cf) (k := 0) (by kernel_rfl) (h := qx_neg)) <|
          obs_cons (ok_fld (C := (QX.cu xr).cf) 0 (by kernel_rfl)) <|
          obs_cons (ok_fldn (C := (QX.cu xr).cf) 0 1 (by kernel_rfl)) <|
          obs_cons (ok_ld (C := (QX.cu xr).cf) (k := 1) (by kernel_rfl) (h := qx_abs')) <|
          obs_cons (ok_move) <|
          obs_cons (ok_call2 wide_wide en_14 (fun u0 u1 W hb (h0 : LVx (xr.n) (xr.k.natAbs) u0 W) (h1 : LVx (nt) (xt) u1 W) => rmul_v (m := 40) (LVx.lv h0 (m := 40) (by omega)) (LVx.lv h1 (m := 40) (by omega)) (by omega))) <|
          obs_cons (ok_build2 (fun u v W (hu : SgV xr.k u) (hv : NatV W v (xr.k.natAbs * xt)) => b_intS (m := 44) hu hv (Nat.lt_of_lt_of_le (pow_mul_lt hbk hbt) (Nat.pow_le_pow_right BB_pos (by omega))))) <|
          obs_cons (ok_fld (C := (QX.cu xr).cf) 2 (by kernel_rfl)) <|
          obs_cons (ok_ld (C := (QX.cu xr).cf) (k := 2) (by kernel_rfl) (h := qx_den')) <|
          obs_cons (ok_move) <|
          obs_cons (ok_call2 wide_wide en_14 (fun u0 u1 W hb (h0 : LVx (xr.n') (xr.d) u0 W) (h1 : LVx (nt) (xt) u1 W) => rmul_v (m := 40) (LVx.lv h0 (m := 40) (by omega)) (LVx.lv h1 (m := 40) (by omega)) (by omega))) <|
          obs_cons (ok_build2 (fun u v W (hu : UV W 44 u (xr.k * xt)) (hv : NatV W v (xr.d * xt)) => b_ratV hu (NatV.lv (m := 44) hv (Nat.lt_of_lt_of_le (pow_mul_lt hbd hbt) (Nat.pow_le_pow_right BB_pos (by omega)))))) <|
          obs_cons (ok_alloc (cs := [.bool false, .slice none 0 0, .slice none 0 0]) (by kernel_rfl) (own_new (fun _ => rfl) rfl)) <| obs_nil) fun a w14 s hr hd => ?_
        obtain ⟨b8, _, e8, s⟩ := s.adoptA false 8 (hr (_, _) (.tail _ (.tail _ (.tail _ (.tail _ (.tail _ (.tail _ (.tail _ (.tail _ (.tail _ (.tail _ (.tail _ (.tail _ (.tail _ (.tail _ (.head _)))))))))))))))) sg (fun y hy => .inl (so y hy))
        refine t_store (CU.agg (fQV (44) ((xr.k * xt)) ((xr.d * xt)))) ((fQV (44) ((xr.k * xt)) ((xr.d * xt))).toSF) rfl s (by kernel_rfl) rfl rfl rfl (fun _ _ h => h) (fun _ _ h => h) (qv_store) fun a w s => ?_
        refine tail_end rfl ?_
        refine wpIn_seq ?_
        replace s := s.drop [4]
        refine region_go 19 ((109, .s ((fQV (44) ((xr.k * xt)) ((xr.d * xt))).toSF)) :: (110, .s ((fQN ((mkRat (xr.k * xt) (xr.d * xt)))).toSF)) :: (111, .s ((fQN (xr.q)).toSF)) :: (112, .s ((UF.eq (.bool true)).toSF)) :: (113, .s ((UF.eq (.bool true)).toSF)) :: (114, .s ((fQN (xr.q)).toSF)) :: (115, .s ((fQN (xr.q)).toSF)) :: (116, .s ((fQN (xr.q)).toSF)) :: (117, .s ((UF.eq (.bool true)).toSF)) :: (118, .s ((UF.eq (.bool true)).toSF)) :: (119, .s ((UF.eq (.bool true)).toSF)) :: (120, .s ((fQV (44) ((xr.k * xt)) ((xr.d * xt))).toSF)) :: (121, .s ((fQX xr.n xr.n' xr.k xr.d).toSF)) :: (122, .s ((UF.eq (.bool true)).toSF)) :: (123, .s ((UF.eq (.bool true)).toSF)) :: (124, .s ((UF.eq (.bool true)).toSF)) :: (125, .s ((UF.eq (.bool true)).toSF)) :: (126, .s ((UF.eq (.bool true)).toSF)) :: (4, .u (UF.eq (.bool true))) :: []) hmix s (by kernel_rfl)
          (obs_cons (ok_ldW (f := fQV (44) ((xr.k * xt)) ((xr.d * xt))) 3 (by kernel_rfl) (hz := qv_len _ _ _)) <|
          obs_cons (ok_call1 wide_wide en_31 (fun u0 W hb (h0 : QVp (44) ((xr.k * xt)) ((xr.d * xt)) u0 W) => rNorm_q (qv_rv h0) (by omega) (by omega) (hT.below (s.up hb)))) <|
          obs_cons (ok_ldW (f := fQN (xr.q)) 3 (by kernel_rfl) (hz := qn_len _)) <|
          obs_cons (ok_call2 wide_wide en_36 (fun u0 u1 W hb (h0 : QNp ((mkRat (xr.k * xt) (xr.d * xt))) u0 W) (h1 : QNp (xr.q) u1 W) => l7same_e h0 h1 (by first | exact hq0 | exact hq1 | rfl))) <|
          obs_cons (ok_move) <|
          obs_cons (ok_guard 113 true (by kernel_rfl) (fun _ _ h => h) (fun _ => ok_ldW (f := fQN (xr.q)) 3 (by kernel_rfl) (hz := qn_len _)) (fun e => absurd rfl e)) <|
          obs_cons (ok_guard 113 true (by kernel_rfl) (fun _ _ h => h) (fun _ => ok_call1 wide_wide en_31 (fun u0 W hb (h0 : QNp (xr.q) u0 W) => rNorm_q (QNp.rv h0 hqxr) (by omega) (by omega) (hT.below (s.up hb)))) (fun e => absurd rfl e)) <|
          obs_cons (ok_guard 113 true (by kernel_rfl) (fun _ _ h => h) (fun _ => ok_ldW (f := fQN (xr.q)) 3 (by kernel_rfl) (hz := qn_len _)) (fun e => absurd rfl e)) <|
          obs_cons (ok_guard 113 true (by kernel_rfl) (fun _ _ h => h) (fun _ => ok_call2 wide_wide en_36 (fun u0 u1 W hb (h0 : QNp (xr.q) u0 W) (h1 : QNp (xr.q) u1 W) => l7same_e h0 h1 (by first | exact hq0 | exact hq1 | rfl))) (fun e => absurd rfl e)) <|
          obs_cons (ok_pick true (fun _ _ h => h) (fun _ _ _ h => h) (fun e => by cases e)) <|
          obs_cons (ok_move) <|
          obs_cons (ok_guard 119 true (by kernel_rfl) (fun _ _ h => h) (fun _ => ok_ldW (f := fQV (44) ((xr.k * xt)) ((xr.d * xt))) 3 (by kernel_rfl) (hz := qv_len _ _ _)) (fun e => absurd rfl e)) <|
          obs_cons (ok_guard 119 true (by kernel_rfl) (fun _ _ h => h) (fun _ => ok_ldW (f := fQX xr.n xr.n' xr.k xr.d) 3 (by kernel_rfl) (hz := qx_len _ _ _ _)) (fun e => absurd rfl e)) <|
          obs_cons (ok_guard 119 true (by kernel_rfl) (fun _ _ h => h) (fun _ => ok_call2 wide_wide en_38 (fun u0 u1 W hb (h0 : QVp (44) ((xr.k * xt)) ((xr.d * xt)) u0 W) (h1 : QXp xr.n xr.n' xr.k xr.d u1 W) => ret_cast (rSame_q (m := 44) (qv_rv h0) (RVp.mono (rv_x (m := 40) h1 (by omega) (by omega)) (by omega)) (by omega) (by omega) (hT.below (s.up hb))) (congrArg (fun b => (fB b).toSF) (by rw [qsg_eq.2 hq1]; rfl)))) (fun e => absurd rfl e)) <|
          obs_cons (ok_pick true (fun _ _ h => h) (fun _ _ _ h => h) (fun e => by cases e)) <|
          obs_cons (ok_move) <|
          obs_cons (ok_guard 124 true (by kernel_rfl) (fun _ _ h => h) (fun _ => ok_call0 wide_wide en_30 (fun W hb => l7wakes_t (hT.below (s.up hb)))) (fun e => absurd rfl e)) <|
          obs_cons (ok_pick true (fun _ _ h => h) (fun _ _ _ h => h) (fun e => by cases e)) <|
          obs_cons (ok_assign) <| obs_nil) fun a w15 s => ?_
        refine tail_end rfl ?_
        refine wpIn_ret ?_
        exact StS.res1 s (t := 4) rfl (fun _ _ h => h)

end Go.Proofs.Wd

