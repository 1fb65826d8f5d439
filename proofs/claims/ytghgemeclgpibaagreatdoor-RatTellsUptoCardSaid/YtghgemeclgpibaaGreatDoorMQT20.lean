/- Natural numbers as values; the walks of gcd's Reduce, Lcm, Coprime; Th and what it needs. -/
import Derived.Test.YtghgemeclgpibaaGreatDoorMQT18
import Derived.Test.YtghgemeclgpibaaGreatDoorMQT13
import Derived.Test.YtghgemeclgpibaaGreatDoorMQT7
import Derived.Test.YtghgemeclgpibaaGreatDoorMQT19
import Derived.Test.YtghgemeclgpibaaGreatDoorMQT17
import Derived.Test.YtghgemeclgpibaaGreatDoorMQT6
import Derived.Test.YtghgemeclgpibaaGreatDoorMQT1
import Derived.Test.YtghgemeclgpibaaGreatDoorMQT9
import Derived.Test.YtghgemeclgpibaaGreatDoorMQT16
namespace Go.Proofs.Wd
open Go.RowKit Lb

theorem gcd_v {W : World} {m : Nat} {v v' : Value} {a b : Nat} (h : LV W m v a) (h' : LV W m v' b) (hm : m ≤ 1000) (hT : Tab W) : Calls Tryz.prog 112 #[v, v'] W (RetN W (Nat.gcd a b)) := by
  obtain ⟨A, n, c, l, rfl, h1, h2, h3, rfl⟩ := h
  obtain ⟨A', n', c', l', rfl, h1', h2', h3', rfl⟩ := h'
  exact (gcd_any A n c l A' n' c' l' W h1 h1' h2 h2' (by omega) (by omega) hT).mono fun _ _ => RetNat.v
theorem gcd_lt {a b m : Nat} (ha : a < BB ^ m) (hb : b < BB ^ m) : Nat.gcd a b < BB ^ m := by
  rcases Nat.eq_zero_or_pos a with rfl | h
  · rwa [Nat.gcd_zero_left]
  · exact Nat.lt_of_le_of_lt (Nat.gcd_le_left b h) ha

theorem by1_any {m : Nat} {v vg : Value} {a g B : Nat} {W : World} (h : LV W m v a) (hg : LV W m vg g) (hm : m ≤ 1000) (hg0 : 0 < g) (hc : W.cell? ⟨B, 0, none⟩ = some vg) :
    Calls Tryz.prog 130 #[v, .pointer (some ⟨B, 0, none⟩)] W (RetN W (a / g)) := by
  obtain ⟨A, n, c, l, rfl, h1, h2, h3, h4⟩ := h
  obtain ⟨A', n', c', l', rfl, h1', h2', h3', h4'⟩ := hg
  have hd := qdiv_all a g hg0 A n c l A' n' c' l' W h1 h2 h1' h2' h4 h4' (by omega) (by omega)
  have H4 := hid h4; have H4' := hid h4'
  clear h4 h4'
  go_enter Tryz.func130, Tryz.ntmps130
  go_wp2_with fail
  refine hd.mono ?_
  rintro e w4 ⟨A4, n4, c4, l4, A5, n5, c5, l5, rfl, hi4, hr4, hi5, hr5, hb5⟩
  go_wp2_with fail
  go_ret
  exact ⟨_, rfl, ⟨A4, n4, c4, l4, rfl, hi4, hr4⟩, hb5⟩

theorem by_any (A : Option Addr) (n c : Nat) (w : World) :
    Calls Tryz.prog 113 #[.slice A n c] w fun e w' => e = .returned (.func (.func 130) #[] #[.pointer (some ⟨w.heap.size, 0, none⟩)]) ∧ w' = w.alloc (.cells #[.slice A n c] 23) := by
  go_enter Tryz.func113, Tryz.ntmps113
  go_wp2
  go_ret
  exact ⟨rfl, rfl⟩

set_option maxHeartbeats 1000000 in
theorem reduce_v {W : World} {m : Nat} {v v' : Value} {a b : Nat} (h : LV W m v a) (h' : LV W m v' b) (hm : m ≤ 1000) (hT : Tab W) : Calls Tryz.prog 85 #[v, v'] W (RetN2 W (a / Nat.gcd a b) (b / Nat.gcd a b)) := by
  have hgc := gcd_v h h' hm hT
  have hgl := gcd_lt h.bound h'.bound
  have hen : ∀ args w, (callFunc 130 args).run Tryz.prog w = .ok (.enter 130 args) w := enters_of Tryz.func130 (by kernel_rfl) rfl
  obtain ⟨g, hg⟩ : ∃ g, Nat.gcd a b = g := ⟨_, rfl⟩
  rw [hg] at hgc hgl ⊢
  rcases Nat.eq_zero_or_pos g with h0 | h0
  · have HZ := hid h0
    go_enter Tryz.func85, Tryz.ntmps85
    go_wp2_with fail
    refine hgc.mono ?_
    rintro e w4 ⟨v4, rfl, ⟨A4, n4, c4, l4, rfl, hi4, hr4⟩, hb4⟩
    obtain rfl : n4 = 0 := by rw [← hr4.len]; exact hi4.zero_iff.1 HZ.out
    go_wp2_with fail
    go_ret2
    exact ⟨_, _, rfl, ⟨none, 0, 0, [], rfl, by rw [HZ.out, Nat.div_zero]; exact Is.nil, Rd.nil_ _⟩, ⟨none, 0, 0, [], rfl, by rw [HZ.out, Nat.div_zero]; exact Is.nil, Rd.nil_ _⟩, hb4⟩
  · clear hg
    go_enter Tryz.func85, Tryz.ntmps85
    go_wp2_with fail
    refine hgc.mono ?_
    rintro e w4 ⟨v4, rfl, ⟨A4, n4, c4, l4, rfl, hi4, hr4⟩, hb4⟩
    have hn4 : 0 < n4 := by rw [← hr4.len]; exact hi4.pos_iff.1 h0
    have hb5 := hb4.trans ((Below.refl _ w4).alloc (Nat.le_refl _) (.cells #[.slice A4 n4 c4] 23) |>.mono hb4.size)
    have x5 := Boxed.new w4 23 (.slice A4 n4 c4)
    obtain ⟨W5, hW5⟩ : ∃ W5, w4.alloc (.cells #[.slice A4 n4 c4] 23) = W5 := ⟨_, rfl⟩
    rw [hW5] at hb5 x5
    have hg5 : LV W5 m (.slice A4 n4 c4) g := by rw [← hW5]; exact (NatV.lv ⟨A4, n4, c4, l4, rfl, hi4, hr4⟩ hgl).below ((Below.refl _ w4).alloc (Nat.le_refl _) _)
    have hby := by_any A4 n4 c4 w4
    rw [hW5] at hby
    clear hW5
    go_wp2_with fail
    refine hby.mono ?_
    rintro e w6 ⟨rfl, rfl⟩
    go_wp2_with fail
    refine (by1_any (h.below hb5) hg5 hm h0 x5.cell).mono ?_
    rintro e w7 ⟨v7, rfl, hv7, hb7⟩
    go_wp2_with fail
    refine (by1_any ((h'.below hb5).below hb7) (hg5.below hb7) hm h0 ((hb7.cell (p := ⟨w4.heap.size, 0, none⟩) (lt_of_cell x5.cell)).trans x5.cell)).mono ?_
    rintro e w8 ⟨v8, rfl, hv8, hb8⟩
    go_wp2_with fail
    go_ret2
    have t1 := hb5.trans (hb7.mono hb5.size)
    exact ⟨_, _, rfl, hv7.below hb8, hv8, t1.trans (hb8.mono t1.size)⟩

end Go.Proofs.Wd


namespace Go.Proofs.Wd
open Go.RowKit Lb

theorem below_dn {W : World} (nq : Nat) : Below W.heap.size W (W.drewN nq) := ⟨(Below.refl W.heap.size W).os, (Below.refl W.heap.size W).tape, (Below.refl W.heap.size W).output, (Below.refl W.heap.size W).size, (Below.refl W.heap.size W).block⟩
end Go.Proofs.Wd


namespace Go.Proofs.Wd
open Go.RowKit Lb

end Go.Proofs.Wd


namespace Go.Proofs.Wd
open Go.RowKit Lb

theorem trim_v {W : World} {m : Nat} {v : Value} {x : Nat} (h : LV W m v x) (hm : m ≤ 100000) : Calls Tryz.prog 83 #[v] W (RetN W x) := by
  obtain ⟨A, n, c, l, rfl, h1, h2, h3, rfl⟩ := h
  exact (trim_any A n c l W h1 h2 (by omega)).mono fun _ _ => RetNat.v
theorem Tab.bls {W w : World} {b : Nat} {cs : List Value} {te : TypeId} (hT : Tab W) (hb : W.heap[b]? = some (.cells cs.toArray te (0, 0))) (h0 : ∃ s, cs[0]? = some (.bool s)) (hg : BlS (fun k => k = b) W w) : Tab w := fun j hj => by
  have h1 := hT j hj
  have hne : (0 : Nat) ≠ b := fun e => by
    have h2 := hT 0 (by decide)
    obtain ⟨s, hs⟩ := h0
    unfold World.cell? at h2
    rw [show ((⟨0, 0, none⟩ : Addr).block) = b from e, hb] at h2
    simp [hs] at h2
  exact (World.cell?_of_block (a := ⟨0, j, none⟩) (hg.block _ (lt_of_cell h1) hne)).trans h1
theorem qv_bool {m : Nat} {k : Int} {d : Nat} {cs : List Value} {W : World} (h : QVp m k d (.agg cs.toArray) W) : ∃ s, cs[0]? = some (.bool s) := by
  obtain ⟨u, h1, s, rfl⟩ := qv_neg cs W h
  exact ⟨s, h1⟩
theorem qv_noLimb {m : Nat} {k : Int} {d : Nat} {cs : List Value} {W : World} (h : QVp m k d (.agg cs.toArray) W) : cs.all noLimb = true := by
  have := (qv_box (v := .agg cs.toArray) h).2
  simpa [Value.cells] using this
set_option maxRecDepth 100000 in
theorem whole_v {W : World} {v : Value} {x : Nat} (h : NatV W v x) : Calls Tryz.prog 67 #[v] W (Ret W (fNV ((x : Int))).toSF) := by
  refine run_st [(fNat (x)).toSF] Tryz.func67 rfl (by kernel_rfl) ⟨h, trivial⟩ fun a s => ?_
  refine wpIn_seq ?_
  refine region_go 0 [] hmix s (by kernel_rfl)
    obs_nil fun a w1 s => ?_
  refine t_alloc (CU.len 2) (cs := [.bool false, .slice none 0 0]) (by kernel_rfl) rfl s (by kernel_rfl) (fun W => rfl) rfl fun b2 a w s => ?_
  refine tail_end rfl ?_
  refine wpIn_seq ?_
  refine region_go 2 ((3, .s ((fNat (x)).toSF)) :: (4, .u (fNV ((x : Int)))) :: []) hmix s (by kernel_rfl)
    (obs_cons (ok_move) <| obs_cons (ok_build1 (fun u W (hu : NatV W u (x)) => b_whole hu)) <| obs_nil) fun a w2 s => ?_
  refine t_store (CU.agg (fNV ((x : Int)))) ((fNV ((x : Int))).toSF) rfl s (by kernel_rfl) rfl rfl rfl (fun _ _ h => h) (fun _ _ h => h) (nv_store) fun a w s => ?_
  refine tail_end rfl ?_
  refine wpIn_ret ?_
  exact StS.resC s (CU.agg (fNV ((x : Int)))) rfl (by kernel_rfl) rfl rfl (nv_len _) (fun cs W h => h)

set_option maxRecDepth 100000 in
theorem rof_v {W : World} (z : Int) (hz : -9223372036854775808 ≤ z ∧ z ≤ 9223372036854775807) : Calls Tryz.prog 28 #[.int .i64 z] W (Ret W (fQN (z : Rat)).toSF) := by
  refine run_st [(fI z).toSF] Tryz.func28 rfl (by kernel_rfl) ⟨rfl, trivial⟩ fun a s => ?_
  refine wpIn_seq ?_
  refine region_go 0 [] hmix s (by kernel_rfl)
    obs_nil fun a w1 s => ?_
  refine t_alloc (CU.len 3) (cs := [.bool false, .slice none 0 0, .slice none 0 0]) (by kernel_rfl) rfl s (by kernel_rfl) (fun W => rfl) rfl fun b2 a w s => ?_
  refine tail_end rfl ?_
  refine wpIn_seq ?_
  refine region_go 4 ((3, .s ((UF.eq (.int .i64 (z))).toSF)) :: (4, .s ((fNV (z)).toSF)) :: (5, .s ((fNat (1)).toSF)) :: (6, .u (fQN ((z : Rat)))) :: []) hmix s (by kernel_rfl)
    (obs_cons (ok_move) <| obs_cons (ok_call1 wide_wide en_68 (fun u0 W hb (h0 : u0 = .int .i64 (z)) => by subst h0; exact of_v z hz)) <| obs_cons (ok_slice1 (fun u W (hu : u = .int .u32 1) => sl_one hu)) <| obs_cons (ok_build2 (fun u v W (hu : NV W u z) (hv : NatV W v 1) => b_ratN (q := (z : Rat)) hu hv)) <| obs_nil) fun a w2 s => ?_
  refine t_store (CU.agg (fQN ((z : Rat)))) ((fQN ((z : Rat))).toSF) rfl s (by kernel_rfl) rfl rfl rfl (fun _ _ h => h) (fun _ _ h => h) (qn_store) fun a w s => ?_
  refine tail_end rfl ?_
  refine wpIn_ret ?_
  exact StS.resC s (CU.agg (fQN (z : Rat))) rfl (by kernel_rfl) rfl rfl (qn_len _) (fun cs W h => h)

set_option maxRecDepth 100000 in
theorem rnorm_z {W : World} {b m : Nat} {k : Int} {d : Nat} {cs : List Value} (hh : W.heap[b]? = some (.cells cs.toArray 59 (0, 0))) (hc : QVp m k d (.agg cs.toArray) W) (hm : m ≤ 1000) (hd : d = 0) : Calls Tryz.prog 57 #[.pointer (some ⟨b, 0, none⟩)] W (RetS W b 59 (CU.agg (fQN ((0 : Int) : Rat))) (UF.eq (.bool false)).toSF) := by
  have hz : true = decide (d = 0) := (decide_eq_true hd).symm
  refine run_stS b [(0, UF.eq (.pointer (some ⟨b, 0, none⟩)))] [⟨0, 59, CU.agg (fQV m k d), b, false⟩] Tryz.func57 rfl (by kernel_rfl) (fun q hq => by simp at hq; subst hq; exact ⟨by simp, rfl⟩) ⟨⟨cs, rfl, .inr (.inr rfl), hh, hc, qv_noLimb hc, fun y hy => by cases hy⟩, trivial⟩ (fun x hx => by simp at hx; subst hx; simp) fun a s => ?_
  refine wpIn_seq ?_
  refine region_go 1 ((2, .u (UF.eq (.bool false))) :: []) hmix s (by kernel_rfl)
    (obs_cons (ok_assign) <| obs_nil) fun a w1 s => ?_
  refine tail_end rfl ?_
  refine wpIn_seq ?_
  refine wpIn_seq ?_
  refine region_go 8 ((3, .s (SF.pb b (CU.agg (fQV (m) (k) (d))).cf)) :: (4, .s (SF.ptr (CU.agg (fQV (m) (k) (d))).cf)) :: (5, .s (SF.ptr ((CU.agg (fQV (m) (k) (d))).cf.at 0))) :: (6, .s (SF.ptr ((CU.agg (fQV (m) (k) (d))).cf.at 2))) :: (7, .s ((fLV (m) (d)).toSF)) :: (8, .s ((fNat (d)).toSF)) :: (9, .s (fLen d)) :: (10, .u (UF.eq (.bool true))) :: []) hmix s (by kernel_rfl)
    (obs_cons (ok_move) <| obs_cons (ok_nil (C := (CU.agg (fQV (m) (k) (d))).cf)) <| obs_cons (ok_fld (C := (CU.agg (fQV (m) (k) (d))).cf) 0 (by kernel_rfl)) <| obs_cons (ok_fldn (C := (CU.agg (fQV (m) (k) (d))).cf) 0 2 (by kernel_rfl)) <| obs_cons (ok_ld (C := (CU.agg (fQV (m) (k) (d))).cf) (k := 2) (by kernel_rfl) (h := qv_den)) <| obs_cons (ok_call1 wide_wide en_83 (fun u0 W hb (h0 : LV W (m) u0 (d)) => trim_v h0 (by omega))) <| obs_cons (ok_lenN (by kernel_rfl) (fun _ _ h => h)) <| obs_cons (ok_eql0 hz) <| obs_nil) fun a w2 s => ?_
  refine tail_end rfl ?_
  refine StS.cond s true (fun _ _ h => h) (fun e => ?_) (fun e => by cases e)
  refine wpIn_seq ?_
  refine region_go 4 ((11, .s ((UF.eq (.pointer (some ⟨b, 0, none⟩))).toSF)) :: (12, .u (fQN (((0 : Int) : Rat)))) :: (13, .s ((UF.eq (.pointer (some ⟨b, 0, none⟩))).toSF)) :: (14, .u (UF.eq (.pointer (some ⟨b, 0, none⟩)))) :: []) hmix s (by kernel_rfl)
    (obs_cons (ok_move (fun _ _ _ h => h.1)) <| obs_cons (ok_call1 wide_wide en_28 (fun u0 W hb (h0 : u0 = .int .i64 (0)) => by subst h0; exact rof_v 0 (by decide))) <| obs_cons (ok_nilE (a := ⟨b, 0, none⟩) (fun _ _ h => h)) <| obs_cons (ok_fldE (b := b) (o := 0) 0 (by kernel_rfl) (fun _ _ h => h)) <| obs_nil) fun a w3 s => ?_
  refine t_storeP (c := 0) (o := 0) (kk := 3) (CU.agg (fQN (((0 : Int) : Rat)))) ((fQN (((0 : Int) : Rat))).toSF) rfl s (by kernel_rfl) rfl rfl (fun _ _ h => h) (fun _ _ h => h) (sp_whole) fun a w s => ?_
  refine tail_end rfl ?_
  refine wpIn_seq ?_
  replace s := s.drop [2]
  refine region_go 1 ((2, .u (UF.eq (.bool false))) :: []) hmix s (by kernel_rfl)
    (obs_cons (ok_assign) <| obs_nil) fun a w4 s => ?_
  refine tail_end rfl ?_
  refine wpIn_ret ?_
  exact StS.resS1 s (c := 0) (C := CU.agg (fQN (((0 : Int) : Rat)))) rfl rfl rfl rfl (fun _ _ h => h)

set_option maxRecDepth 100000 in
theorem rnorm_p {W : World} {b m : Nat} {k : Int} {d : Nat} {cs : List Value} (hh : W.heap[b]? = some (.cells cs.toArray 59 (0, 0))) (hc : QVp m k d (.agg cs.toArray) W) (hm : m ≤ 1000) (hd0 : 0 < d) (hT : Tab W) : Calls Tryz.prog 57 #[.pointer (some ⟨b, 0, none⟩)] W (RetS W b 59 (CU.agg (fQN (mkRat k d))) (UF.eq (.bool true)).toSF) := by
  have hz : false = decide (d = 0) := (decide_eq_false (by omega)).symm
  have bk : k.natAbs < BB ^ m := by obtain ⟨_, _, _, _, h1, _⟩ := hc; exact h1.bound
  have hred : ∀ W u0 u1, Tab W → LV W m u0 k.natAbs → LV W m u1 d → Calls Tryz.prog 85 #[u0, u1] W (Ret W (SF.tup2 (fNat (k.natAbs / Nat.gcd k.natAbs d)).toSF (fNat (d / Nat.gcd k.natAbs d)).toSF)) := fun W u0 u1 hT h0 h1 => (reduce_v h0 h1 hm hT).mono fun e w' ⟨v, v', e1, h1, h2, hb⟩ => ⟨_, e1, ⟨v, v', rfl, h1, h2⟩, hb⟩
  refine run_stS b [(0, UF.eq (.pointer (some ⟨b, 0, none⟩)))] [⟨0, 59, CU.agg (fQV m k d), b, false⟩] Tryz.func57 rfl (by kernel_rfl) (fun q hq => by simp at hq; subst hq; exact ⟨by simp, rfl⟩) ⟨⟨cs, rfl, .inr (.inr rfl), hh, hc, qv_noLimb hc, fun y hy => by cases hy⟩, trivial⟩ (fun x hx => by simp at hx; subst hx; simp) fun a s => ?_
  refine wpIn_seq ?_
  refine region_go 1 ((2, .u (UF.eq (.bool false))) :: []) hmix s (by kernel_rfl)
    (obs_cons (ok_assign) <| obs_nil) fun a w1 s => ?_
  refine tail_end rfl ?_
  refine wpIn_seq ?_
  refine wpIn_seq ?_
  refine region_go 8 ((3, .s (SF.pb b (CU.agg (fQV (m) (k) (d))).cf)) :: (4, .s (SF.ptr (CU.agg (fQV (m) (k) (d))).cf)) :: (5, .s (SF.ptr ((CU.agg (fQV (m) (k) (d))).cf.at 0))) :: (6, .s (SF.ptr ((CU.agg (fQV (m) (k) (d))).cf.at 2))) :: (7, .s ((fLV (m) (d)).toSF)) :: (8, .s ((fNat (d)).toSF)) :: (9, .s (fLen d)) :: (10, .u (UF.eq (.bool false))) :: []) hmix s (by kernel_rfl)
    (obs_cons (ok_move) <| obs_cons (ok_nil (C := (CU.agg (fQV (m) (k) (d))).cf)) <| obs_cons (ok_fld (C := (CU.agg (fQV (m) (k) (d))).cf) 0 (by kernel_rfl)) <| obs_cons (ok_fldn (C := (CU.agg (fQV (m) (k) (d))).cf) 0 2 (by kernel_rfl)) <| obs_cons (ok_ld (C := (CU.agg (fQV (m) (k) (d))).cf) (k := 2) (by kernel_rfl) (h := qv_den)) <| obs_cons (ok_call1 wide_wide en_83 (fun u0 W hb (h0 : LV W (m) u0 (d)) => trim_v h0 (by omega))) <| obs_cons (ok_lenN (by kernel_rfl) (fun _ _ h => h)) <| obs_cons (ok_eql0 hz) <| obs_nil) fun a w2 s => ?_
  refine tail_end rfl ?_
  refine StS.cond s false (fun _ _ h => h) (fun e => by cases e) (fun e => ?_)
  refine wpIn_skip ?_
  refine wpIn_seq ?_
  refine region_go 10 ((15, .s ((UF.eq (.pointer (some ⟨b, 0, none⟩))).toSF)) :: (16, .s (SF.pb b (CU.agg (fQV (m) (k) (d))).cf)) :: (17, .s (SF.ptr (CU.agg (fQV (m) (k) (d))).cf)) :: (18, .s (SF.ptr ((CU.agg (fQV (m) (k) (d))).cf.at 0))) :: (19, .s (SF.ptr ((CU.agg (fQV (m) (k) (d))).cf.at 0))) :: (20, .s ((fUV (m) (k)).toSF)) :: (21, .u (fNV (k))) :: (22, .s ((UF.eq (.pointer (some ⟨b, 0, none⟩))).toSF)) :: (23, .s ((UF.eq (.pointer (some ⟨b, 0, none⟩))).toSF)) :: (24, .u (UF.eq (.pointer (some ⟨b, 0, none⟩)))) :: []) hmix s (by kernel_rfl)
    (obs_cons (ok_move (fun _ _ _ h => h.1)) <| obs_cons (ok_move) <| obs_cons (ok_nil (C := (CU.agg (fQV (m) (k) (d))).cf)) <| obs_cons (ok_fld (C := (CU.agg (fQV (m) (k) (d))).cf) 0 (by kernel_rfl)) <| obs_cons (ok_fldn (C := (CU.agg (fQV (m) (k) (d))).cf) 0 0 (by kernel_rfl)) <| obs_cons (ok_ldA (C := (CU.agg (fQV (m) (k) (d))).cf) (k := 0) 2 (by kernel_rfl) (h := qv_num)) <| obs_cons (ok_call1 wide_wide en_78 (fun u0 W hb (h0 : UV W (m) u0 (k)) => norm_v h0 (by omega))) <| obs_cons (ok_nilE (a := ⟨b, 0, none⟩) (fun _ _ h => h)) <| obs_cons (ok_fldE (b := b) (o := 0) 0 (by kernel_rfl) (fun _ _ h => h)) <| obs_cons (ok_fldE (b := b) (o := 0) 0 (by kernel_rfl) (fun _ _ h => h)) <| obs_nil) fun a w3 s => ?_
  refine t_storeP (c := 0) (o := 0) (kk := 2) (CU.agg (fQM m k d)) ((fNV (k)).toSF) rfl s (by kernel_rfl) rfl rfl (fun _ _ h => h) (fun _ _ h => h) (sp_numV) fun a w s => ?_
  refine tail_end rfl ?_
  refine wpIn_seq ?_
  refine region_goP [0, 1, 2, 8] 15 ((26, .u (UF.eq (.pointer (some ⟨b, 0, none⟩)))) :: (27, .u (UF.eq (.pointer (some ⟨b, 0, none⟩)))) :: (28, .s (SF.pb b (CU.agg (fQM m k d)).cf)) :: (29, .s (SF.ptr (CU.agg (fQM m k d)).cf)) :: (30, .s (SF.ptr ((CU.agg (fQM m k d)).cf.at 0))) :: (31, .s (SF.ptr ((CU.agg (fQM m k d)).cf.at 0))) :: (32, .s (SF.ptr ((CU.agg (fQM m k d)).cf.at 1))) :: (33, .s ((fNat (k.natAbs)).toSF)) :: (34, .s (SF.pb b (CU.agg (fQM m k d)).cf)) :: (35, .s (SF.ptr (CU.agg (fQM m k d)).cf)) :: (36, .s (SF.ptr ((CU.agg (fQM m k d)).cf.at 0))) :: (37, .s (SF.ptr ((CU.agg (fQM m k d)).cf.at 2))) :: (38, .s ((fLV (m) (d)).toSF)) :: (39, .s ((fTup2 (fNat (k.natAbs / Nat.gcd k.natAbs d)) (fNat (d / Nat.gcd k.natAbs d))).toSF)) :: (25, .u (fTup2 (fNat (k.natAbs / Nat.gcd k.natAbs d)) (fNat (d / Nat.gcd k.natAbs d)))) :: []) hmix s (by kernel_rfl)
    (obs_cons (ok_move (fun _ _ _ h => h.1)) <| obs_cons (ok_move (fun _ _ _ h => h.1)) <| obs_cons (ok_move) <| obs_cons (ok_nil (C := (CU.agg (fQM m k d)).cf)) <| obs_cons (ok_fld (C := (CU.agg (fQM m k d)).cf) 0 (by kernel_rfl)) <| obs_cons (ok_fldn (C := (CU.agg (fQM m k d)).cf) 0 0 (by kernel_rfl)) <| obs_cons (ok_fldn (C := (CU.agg (fQM m k d)).cf) 0 1 (by kernel_rfl)) <| obs_cons (ok_ld (C := (CU.agg (fQM m k d)).cf) (k := 1) (by kernel_rfl) (h := qm_abs)) <| obs_cons (ok_move) <| obs_cons (ok_nil (C := (CU.agg (fQM m k d)).cf)) <| obs_cons (ok_fld (C := (CU.agg (fQM m k d)).cf) 0 (by kernel_rfl)) <| obs_cons (ok_fldn (C := (CU.agg (fQM m k d)).cf) 0 2 (by kernel_rfl)) <| obs_cons (ok_ld (C := (CU.agg (fQM m k d)).cf) (k := 2) (by kernel_rfl) (h := qm_den)) <| obs_cons (ok_call2 wide_wide en_85 (fun u0 u1 W hb (h0 : NatV W u0 (k.natAbs)) (h1 : LV W (m) u1 (d)) => hred W u0 u1 (hT.bls hh (qv_bool hc) (s.gr.trans hb)) (NatV.lv h0 bk) h1)) <| obs_cons (ok_move) <| obs_nil) fun Q' hQ a w4 s => ?_
  refine t_gd (fNat (k.natAbs / Nat.gcd k.natAbs d)) rfl s (by kernel_rfl) (ok_ext20 (A := (fNat (k.natAbs / Nat.gcd k.natAbs d)).toSF) (B := (fNat (d / Nat.gcd k.natAbs d)).toSF) (fun _ _ h => h)) (by kernel_rfl) fun a w s => ?_
  refine t_gd (fNat (d / Nat.gcd k.natAbs d)) rfl s (by kernel_rfl) (ok_ext21 (A := (fNat (k.natAbs / Nat.gcd k.natAbs d)).toSF) (B := (fNat (d / Nat.gcd k.natAbs d)).toSF) (fun _ _ h => h)) (by kernel_rfl) fun a w s => ?_
  refine t_gd (UF.eq (.pointer (some ⟨b, 0, none⟩))) rfl s (by kernel_rfl) (ok_nilE (a := ⟨b, 0, none⟩) (fun _ _ h => h)) (by kernel_rfl) fun a w s => ?_
  refine t_gd (UF.eq (.pointer (some ⟨b, 0, none⟩))) rfl s (by kernel_rfl) (ok_fldE (b := b) (o := 0) 0 (by kernel_rfl) (fun _ _ h => h)) (by kernel_rfl) fun a w s => ?_
  refine t_gd (UF.eq (.pointer (some ⟨b, 0, none⟩))) rfl s (by kernel_rfl) (ok_fldE (b := b) (o := 0) 0 (by kernel_rfl) (fun _ _ h => h)) (by kernel_rfl) fun a w s => ?_
  refine t_gd (UF.eq (.pointer (some ⟨b, 1, none⟩))) rfl s (by kernel_rfl) (ok_fldE (b := b) (o := 0) 1 (by kernel_rfl) (fun _ _ h => h)) (by kernel_rfl) fun a w s => ?_
  refine t_storeP (c := 0) (o := 1) (kk := 1) (CU.agg (fQA m (decide (k < 0)) (k.natAbs / Nat.gcd k.natAbs d) d)) ((fNat (k.natAbs / Nat.gcd k.natAbs d)).toSF) rfl s (by kernel_rfl) rfl rfl (fun _ _ h => h) (fun _ _ h => h) (sp_abs) fun a w s => ?_
  refine t_gd (UF.eq (.pointer (some ⟨b, 0, none⟩))) rfl s (by kernel_rfl) (ok_nilE (a := ⟨b, 0, none⟩) (fun _ _ h => h)) (by kernel_rfl) fun a w s => ?_
  refine t_gd (UF.eq (.pointer (some ⟨b, 0, none⟩))) rfl s (by kernel_rfl) (ok_fldE (b := b) (o := 0) 0 (by kernel_rfl) (fun _ _ h => h)) (by kernel_rfl) fun a w s => ?_
  refine t_gd (UF.eq (.pointer (some ⟨b, 2, none⟩))) rfl s (by kernel_rfl) (ok_fldE (b := b) (o := 0) 2 (by kernel_rfl) (fun _ _ h => h)) (by kernel_rfl) fun a w s => ?_
  refine t_storeP (c := 0) (o := 2) (kk := 1) (CU.agg (fQN (mkRat k d))) ((fNat (d / Nat.gcd k.natAbs d)).toSF) rfl s (by kernel_rfl) rfl rfl (fun _ _ h => h) (fun _ _ h => h) (sp_den (mkRat_neg_iff k d hd0).symm (mkRat_num_abs k d hd0).symm (mkRat_den_eq k d hd0).symm) fun a w s => ?_
  refine tail_end rfl (hQ _ _ ?_)
  refine wpIn_seq ?_
  replace s := s.drop [2]
  refine region_go 1 ((2, .u (UF.eq (.bool true))) :: []) hmix s (by kernel_rfl)
    (obs_cons (ok_assign) <| obs_nil) fun a w5 s => ?_
  refine tail_end rfl ?_
  refine wpIn_ret ?_
  exact StS.resS1 s (c := 0) (C := CU.agg (fQN (mkRat k d))) rfl rfl rfl rfl (fun _ _ h => h)

theorem rnorm_any {W : World} {b m : Nat} {k : Int} {d : Nat} {cs : List Value} (hh : W.heap[b]? = some (.cells cs.toArray 59 (0, 0))) (hc : QVp m k d (.agg cs.toArray) W) (hm : m ≤ 1000) (hT : Tab W) : Calls Tryz.prog 57 #[.pointer (some ⟨b, 0, none⟩)] W (RetS W b 59 (CU.agg (fQN (mkRat k d))) (UF.eq (.bool (decide (0 < d)))).toSF) := by
  rcases Nat.eq_zero_or_pos d with h | h
  · have := rnorm_z hh hc hm h
    rw [h, Rat.mkRat_zero, decide_eq_false (by omega)]
    exact this
  · rw [decide_eq_true h]
    exact rnorm_p hh hc hm h hT

end Go.Proofs.Wd


namespace Go.Proofs.Wd
open Go.RowKit Lb

set_option maxRecDepth 100000 in
theorem rof_r {W : World} {m : Nat} {v : Value} {k : Int} {d : Nat} (h : QVp m k d v W) (hm : m ≤ 1000) (hT : Tab W) : Calls Tryz.prog 43 #[v] W (Ret W (SF.newBox W 59 (CU.agg (fQN (mkRat k d))))) := by
  refine run_st [(fQV m k d).toSF] Tryz.func43 rfl (by kernel_rfl) ⟨h, trivial⟩ fun a s => ?_
  refine wpIn_seq ?_
  refine region_go 0 [] hmix s (by kernel_rfl)
    obs_nil fun a w1 s => ?_
  refine t_box (CU.agg (fQV (m) (k) (d))) rfl s (by kernel_rfl) (fun v W h => qv_box h) fun b1 a w s => ?_
  refine t_set (UF.eq (.pointer none)) rfl s (by kernel_rfl) (fun _ _ h => h) fun a w s => ?_
  refine tail_end rfl ?_
  refine wpIn_seq ?_
  refine region_go 2 ((4, .s ((fQV (m) (k) (d)).toSF)) :: (5, .u (fQV (m) (k) (d))) :: []) hmix s (by kernel_rfl)
    (obs_cons (ok_ldW (f := fQV (m) (k) (d)) 3 (by kernel_rfl) (hz := qv_len _ _ _)) <| obs_cons (ok_build1 (fun u W (hu : QVp m k d u W) => b_numV hu)) <| obs_nil) fun a w2 s => ?_
  refine t_box (CU.agg (fQV (m) (k) (d))) rfl s (by kernel_rfl) (fun v W h => qv_box h) fun b6 a w s => ?_
  refine t_ren rfl s (by kernel_rfl) fun a w s => ?_
  refine tail_end rfl ?_
  refine wpIn_seq ?_
  refine region_go 1 ((7, .u (UF.eq (.pointer (some ⟨b6, 0, none⟩)))) :: []) hmix s (by kernel_rfl)
    (obs_cons (ok_move (fun _ _ _ h => h.1)) <| obs_nil) fun a w3 s => ?_
  refine t_callS1 (c := 3) (CU.agg (fQN (mkRat k d))) (UF.any) rfl wide_wide en_57 s (by kernel_rfl) rfl rfl (fun _ _ h => h) (fun cs h1 h2 => ?_) fun a w s => ?_
  · exact (rnorm_any h1 h2 hm (hT.below s.gr.below)).mono fun e w' ⟨v, g1, _, g2⟩ => ⟨v, g1, trivial, g2⟩
  refine tail_end rfl ?_
  refine wpIn_seq ?_
  replace s := s.drop [2]
  refine region_go 2 ((9, .s (SF.pb b6 (CU.agg (fQN (mkRat k d))).cf)) :: (2, .u (UF.eq (.pointer (some ⟨b6, 0, none⟩)))) :: []) hmix s (by kernel_rfl)
    (obs_cons (ok_move) <| obs_cons (ok_assign (fun _ _ _ h => h.1)) <| obs_nil) fun a w4 s => ?_
  refine tail_end rfl ?_
  refine wpIn_ret ?_
  exact StS.resNew s (t := 2) (c := 3) rfl rfl rfl (fun _ _ h => h)

set_option maxRecDepth 100000 in
theorem numadd_r {W : World} {b b' m m' : Nat} {q q' : Rat} {cs cs' : List Value} (hh : W.heap[b]? = some (.cells cs.toArray 59 (0, 0))) (hc : QNp q (.agg cs.toArray) W) (hh' : W.heap[b']? = some (.cells cs'.toArray 59 (0, 0))) (hc' : QNp q' (.agg cs'.toArray) W) (hne : b' ≠ b) (hq : QB q m) (hq' : QB q' m') (hm : m + m' + 1 ≤ 1000) (hT : Tab W) : Calls Tryz.prog 72 #[.pointer (some ⟨b, 0, none⟩), .pointer (some ⟨b', 0, none⟩)] W (RetS W b 59 (CU.agg (fQN (q + q'))) SF.any) := by
  have bk : Bd (((q).num * (((q').den : Nat) : Int)) + ((q').num * (((q).den : Nat) : Int))) (m + m' + 1) := hq.num_add hq'
  rw [Rat.add_def']
  refine run_stS b [(0, UF.eq (.pointer (some ⟨b, 0, none⟩))), (1, UF.eq (.pointer (some ⟨b', 0, none⟩)))] [⟨0, 59, CU.agg (fQN q), b, false⟩, ⟨1, 59, CU.agg (fQN q'), b', true⟩] Tryz.func72 rfl (by kernel_rfl) (fun x hx => by simp at hx; rcases hx with rfl | rfl <;> exact ⟨by simp, rfl⟩) ⟨⟨cs, rfl, .inr (.inr rfl), hh, hc, qv_noLimb (qn_qv hc hq), fun y hy => by simp at hy; subst hy; exact .inl hne⟩, ⟨cs', rfl, .inl rfl, hh', hc', qv_noLimb (qn_qv hc' hq'), fun y hy => by cases hy⟩, trivial⟩ (fun x hx => by simp at hx; rcases hx with rfl | rfl <;> simp) fun a s => ?_
  refine wpIn_seq ?_
  refine region_goP [0, 1, 6, 14, 19] 32 ((4, .s ((UF.eq (.pointer (some ⟨b, 0, none⟩))).toSF)) :: (5, .s (SF.pb b (CU.agg (fQN (q))).cf)) :: (6, .s (SF.ptr (CU.agg (fQN (q))).cf)) :: (7, .s (SF.ptr ((CU.agg (fQN (q))).cf.at 0))) :: (8, .s (SF.ptr ((CU.agg (fQN (q))).cf.at 0))) :: (9, .s ((fNV ((q).num)).toSF)) :: (10, .s (SF.pb b' (CU.agg (fQN (q'))).cf)) :: (11, .s (SF.ptr (CU.agg (fQN (q'))).cf)) :: (12, .s (SF.ptr ((CU.agg (fQN (q'))).cf.at 0))) :: (13, .s (SF.ptr ((CU.agg (fQN (q'))).cf.at 2))) :: (14, .s ((fNat ((q').den)).toSF)) :: (15, .s ((fNV ((((q').den : Nat) : Int))).toSF)) :: (16, .s (fISV ((m + m')) [(q).num, (((q').den : Nat) : Int)])) :: (17, .s ((fNV (((q).num * (((q').den : Nat) : Int)))).toSF)) :: (18, .s (SF.pb b' (CU.agg (fQN (q'))).cf)) :: (19, .s (SF.ptr (CU.agg (fQN (q'))).cf)) :: (20, .s (SF.ptr ((CU.agg (fQN (q'))).cf.at 0))) :: (21, .s (SF.ptr ((CU.agg (fQN (q'))).cf.at 0))) :: (22, .s ((fNV ((q').num)).toSF)) :: (23, .s (SF.pb b (CU.agg (fQN (q))).cf)) :: (24, .s (SF.ptr (CU.agg (fQN (q))).cf)) :: (25, .s (SF.ptr ((CU.agg (fQN (q))).cf.at 0))) :: (26, .s (SF.ptr ((CU.agg (fQN (q))).cf.at 2))) :: (27, .s ((fNat ((q).den)).toSF)) :: (28, .s ((fNV ((((q).den : Nat) : Int))).toSF)) :: (29, .s (fISV ((m + m')) [(q').num, (((q).den : Nat) : Int)])) :: (30, .s ((fNV (((q').num * (((q).den : Nat) : Int)))).toSF)) :: (31, .s (fISV ((m + m')) [((q).num * (((q').den : Nat) : Int)), ((q').num * (((q).den : Nat) : Int))])) :: (32, .u (fNV ((((q).num * (((q').den : Nat) : Int)) + ((q').num * (((q).den : Nat) : Int)))))) :: (33, .s ((UF.eq (.pointer (some ⟨b, 0, none⟩))).toSF)) :: (34, .s ((UF.eq (.pointer (some ⟨b, 0, none⟩))).toSF)) :: (35, .u (UF.eq (.pointer (some ⟨b, 0, none⟩)))) :: []) hmix s (by kernel_rfl)
    (obs_cons (ok_move (fun _ _ _ h => h.1)) <| obs_cons (ok_move) <| obs_cons (ok_nil (C := (CU.agg (fQN (q))).cf)) <| obs_cons (ok_fld (C := (CU.agg (fQN (q))).cf) 0 (by kernel_rfl)) <| obs_cons (ok_fldn (C := (CU.agg (fQN (q))).cf) 0 0 (by kernel_rfl)) <| obs_cons (ok_ldA (C := (CU.agg (fQN (q))).cf) (k := 0) 2 (by kernel_rfl) (h := qn_num)) <| obs_cons (ok_move) <| obs_cons (ok_nil (C := (CU.agg (fQN (q'))).cf)) <| obs_cons (ok_fld (C := (CU.agg (fQN (q'))).cf) 0 (by kernel_rfl)) <| obs_cons (ok_fldn (C := (CU.agg (fQN (q'))).cf) 0 2 (by kernel_rfl)) <| obs_cons (ok_ld (C := (CU.agg (fQN (q'))).cf) (k := 2) (by kernel_rfl) (h := qn_den)) <| obs_cons (ok_call1 wide_wide en_67 (fun u0 W hb (h0 : NatV W u0 ((q').den)) => whole_v h0)) <| obs_cons (ok_slice2 (fun u v W (hu : NV W u ((q).num)) (hv : NV W v ((((q').den : Nat) : Int))) => sl_int2 (NV.uv' hu (Bd.mono (hq).1 (m' := (m + m')) (by first | omega | decide))) (NV.uv' hv (Bd.mono (bd_nat hq'.2) (m' := (m + m')) (by first | omega | decide))))) <| obs_cons (ok_call1 wide_wide en_63 (fun u0 W hb (h0 : ISV W ((m + m')) u0 [(q).num, (((q').den : Nat) : Int)]) => mul_w (k := ((q).num * (((q').den : Nat) : Int))) h0 (by show (m + m') * 2 + (m + m') + 1 ≤ 40000; omega) (by simp) (by simp))) <| obs_cons (ok_move) <| obs_cons (ok_nil (C := (CU.agg (fQN (q'))).cf)) <| obs_cons (ok_fld (C := (CU.agg (fQN (q'))).cf) 0 (by kernel_rfl)) <| obs_cons (ok_fldn (C := (CU.agg (fQN (q'))).cf) 0 0 (by kernel_rfl)) <| obs_cons (ok_ldA (C := (CU.agg (fQN (q'))).cf) (k := 0) 2 (by kernel_rfl) (h := qn_num)) <| obs_cons (ok_move) <| obs_cons (ok_nil (C := (CU.agg (fQN (q))).cf)) <| obs_cons (ok_fld (C := (CU.agg (fQN (q))).cf) 0 (by kernel_rfl)) <| obs_cons (ok_fldn (C := (CU.agg (fQN (q))).cf) 0 2 (by kernel_rfl)) <| obs_cons (ok_ld (C := (CU.agg (fQN (q))).cf) (k := 2) (by kernel_rfl) (h := qn_den)) <| obs_cons (ok_call1 wide_wide en_67 (fun u0 W hb (h0 : NatV W u0 ((q).den)) => whole_v h0)) <| obs_cons (ok_slice2 (fun u v W (hu : NV W u ((q').num)) (hv : NV W v ((((q).den : Nat) : Int))) => sl_int2 (NV.uv' hu (Bd.mono (hq').1 (m' := (m + m')) (by first | omega | decide))) (NV.uv' hv (Bd.mono (bd_nat hq.2) (m' := (m + m')) (by first | omega | decide))))) <| obs_cons (ok_call1 wide_wide en_63 (fun u0 W hb (h0 : ISV W ((m + m')) u0 [(q').num, (((q).den : Nat) : Int)]) => mul_w (k := ((q').num * (((q).den : Nat) : Int))) h0 (by show (m + m') * 2 + (m + m') + 1 ≤ 40000; omega) (by simp) (by simp))) <| obs_cons (ok_slice2 (fun u v W (hu : NV W u (((q).num * (((q').den : Nat) : Int)))) (hv : NV W v (((q').num * (((q).den : Nat) : Int)))) => sl_int2 (NV.uv' hu (Bd.mono (Bd.mul (hq).1 (bd_nat hq'.2)) (by omega))) (NV.uv' hv (Bd.mono (Bd.mul (hq').1 (bd_nat hq.2)) (by omega))))) <| obs_cons (ok_call1 wide_wide en_80 (fun u0 W hb (h0 : ISV W ((m + m')) u0 [((q).num * (((q').den : Nat) : Int)), ((q').num * (((q).den : Nat) : Int))]) => add_w (k := (((q).num * (((q').den : Nat) : Int)) + ((q').num * (((q).den : Nat) : Int)))) h0 (by omega) (by simp) (by simp))) <| obs_cons (ok_nilE (a := ⟨b, 0, none⟩) (fun _ _ h => h)) <| obs_cons (ok_fldE (b := b) (o := 0) 0 (by kernel_rfl) (fun _ _ h => h)) <| obs_cons (ok_fldE (b := b) (o := 0) 0 (by kernel_rfl) (fun _ _ h => h)) <| obs_nil) fun Q' hQ a w1 s => ?_
  refine t_storeP (c := 0) (o := 0) (kk := 2) (CU.agg (fQK ((((q).num * (((q').den : Nat) : Int)) + ((q').num * (((q).den : Nat) : Int)))) ((q).den))) ((fNV ((((q).num * (((q').den : Nat) : Int)) + ((q').num * (((q).den : Nat) : Int))))).toSF) rfl s (by kernel_rfl) rfl rfl (fun _ _ h => h) (fun _ _ h => h) (sp_numK (k0 := q.num) (d := q.den)) fun a w s => ?_
  refine tail_end rfl (hQ _ _ ?_)
  refine wpIn_seq ?_
  refine region_goP [0, 1, 6] 15 ((36, .s ((UF.eq (.pointer (some ⟨b, 0, none⟩))).toSF)) :: (37, .s (SF.pb b (CU.agg (fQK ((((q).num * (((q').den : Nat) : Int)) + ((q').num * (((q).den : Nat) : Int)))) ((q).den))).cf)) :: (38, .s (SF.ptr (CU.agg (fQK ((((q).num * (((q').den : Nat) : Int)) + ((q').num * (((q).den : Nat) : Int)))) ((q).den))).cf)) :: (39, .s (SF.ptr ((CU.agg (fQK ((((q).num * (((q').den : Nat) : Int)) + ((q').num * (((q).den : Nat) : Int)))) ((q).den))).cf.at 0))) :: (40, .s (SF.ptr ((CU.agg (fQK ((((q).num * (((q').den : Nat) : Int)) + ((q').num * (((q).den : Nat) : Int)))) ((q).den))).cf.at 2))) :: (41, .s ((fNat ((q).den)).toSF)) :: (42, .s (SF.pb b' (CU.agg (fQN (q'))).cf)) :: (43, .s (SF.ptr (CU.agg (fQN (q'))).cf)) :: (44, .s (SF.ptr ((CU.agg (fQN (q'))).cf.at 0))) :: (45, .s (SF.ptr ((CU.agg (fQN (q'))).cf.at 2))) :: (46, .s ((fNat ((q').den)).toSF)) :: (47, .u (fNat (((q).den) * ((q').den)))) :: (48, .s ((UF.eq (.pointer (some ⟨b, 0, none⟩))).toSF)) :: (49, .s ((UF.eq (.pointer (some ⟨b, 0, none⟩))).toSF)) :: (50, .u (UF.eq (.pointer (some ⟨b, 2, none⟩)))) :: []) hmix s (by kernel_rfl)
    (obs_cons (ok_move (fun _ _ _ h => h.1)) <| obs_cons (ok_move) <| obs_cons (ok_nil (C := (CU.agg (fQK ((((q).num * (((q').den : Nat) : Int)) + ((q').num * (((q).den : Nat) : Int)))) ((q).den))).cf)) <| obs_cons (ok_fld (C := (CU.agg (fQK ((((q).num * (((q').den : Nat) : Int)) + ((q').num * (((q).den : Nat) : Int)))) ((q).den))).cf) 0 (by kernel_rfl)) <| obs_cons (ok_fldn (C := (CU.agg (fQK ((((q).num * (((q').den : Nat) : Int)) + ((q').num * (((q).den : Nat) : Int)))) ((q).den))).cf) 0 2 (by kernel_rfl)) <| obs_cons (ok_ld (C := (CU.agg (fQK ((((q).num * (((q').den : Nat) : Int)) + ((q').num * (((q).den : Nat) : Int)))) ((q).den))).cf) (k := 2) (by kernel_rfl) (h := qk_den)) <| obs_cons (ok_move) <| obs_cons (ok_nil (C := (CU.agg (fQN (q'))).cf)) <| obs_cons (ok_fld (C := (CU.agg (fQN (q'))).cf) 0 (by kernel_rfl)) <| obs_cons (ok_fldn (C := (CU.agg (fQN (q'))).cf) 0 2 (by kernel_rfl)) <| obs_cons (ok_ld (C := (CU.agg (fQN (q'))).cf) (k := 2) (by kernel_rfl) (h := qn_den)) <| obs_cons (ok_call2 wide_wide en_64 (fun u0 u1 W hb (h0 : NatV W u0 ((q).den)) (h1 : NatV W u1 ((q').den)) => mul_v (LV.mono (NatV.lv h0 hq.2) (m' := (m + m')) (by omega)) (LV.mono (NatV.lv h1 hq'.2) (m' := (m + m')) (by omega)) (by omega))) <| obs_cons (ok_nilE (a := ⟨b, 0, none⟩) (fun _ _ h => h)) <| obs_cons (ok_fldE (b := b) (o := 0) 0 (by kernel_rfl) (fun _ _ h => h)) <| obs_cons (ok_fldE (b := b) (o := 0) 2 (by kernel_rfl) (fun _ _ h => h)) <| obs_nil) fun Q' hQ a w2 s => ?_
  refine t_storeP (c := 0) (o := 2) (kk := 1) (CU.agg (fQK ((((q).num * (((q').den : Nat) : Int)) + ((q').num * (((q).den : Nat) : Int)))) (((q).den) * ((q').den)))) ((fNat (((q).den) * ((q').den))).toSF) rfl s (by kernel_rfl) rfl rfl (fun _ _ h => h) (fun _ _ h => h) (sp_denK) fun a w s => ?_
  refine tail_end rfl (hQ _ _ ?_)
  refine region_go 1 ((51, .u (UF.eq (.pointer (some ⟨b, 0, none⟩)))) :: []) hmix s (by kernel_rfl)
    (obs_cons (ok_move (fun _ _ _ h => h.1)) <| obs_nil) fun a w3 s => ?_
  refine t_callS1 (c := 0) (CU.agg (fQN (mkRat (((q).num * (((q').den : Nat) : Int)) + ((q').num * (((q).den : Nat) : Int))) ((q).den * (q').den)))) (UF.any) rfl wide_wide en_57 s (by kernel_rfl) rfl rfl (fun _ _ h => h) (fun cs h1 h2 => ?_) fun a w s => ?_
  · exact (rnorm_any (m := m + m' + 1) h1 (qk_qv h2 bk (Nat.lt_of_lt_of_le (hq.den_mul hq') (Nat.pow_le_pow_right BB_pos (by omega)))) (by omega) (hT.bls hh (qv_bool (qn_qv hc hq)) s.gr)).mono fun e w' ⟨v, g1, _, g2⟩ => ⟨v, g1, trivial, g2⟩
  refine tail_end rfl ?_
  exact StS.resS0 s (c := 0) (C := CU.agg (fQN (mkRat (((q).num * (((q').den : Nat) : Int)) + ((q').num * (((q).den : Nat) : Int))) ((q).den * (q').den)))) rfl rfl rfl rfl (fun _ => trivial)

set_option maxRecDepth 100000 in
theorem nummul_r {W : World} {b b' m m' : Nat} {q q' : Rat} {cs cs' : List Value} (hh : W.heap[b]? = some (.cells cs.toArray 59 (0, 0))) (hc : QNp q (.agg cs.toArray) W) (hh' : W.heap[b']? = some (.cells cs'.toArray 59 (0, 0))) (hc' : QNp q' (.agg cs'.toArray) W) (hne : b' ≠ b) (hq : QB q m) (hq' : QB q' m') (hm : m + m' + 1 ≤ 1000) (hT : Tab W) : Calls Tryz.prog 73 #[.pointer (some ⟨b, 0, none⟩), .pointer (some ⟨b', 0, none⟩)] W (RetS W b 59 (CU.agg (fQN (q * q'))) SF.any) := by
  have bk : Bd ((q).num * (q').num) (m + m' + 1) := (hq.1.mul hq'.1).mono (by omega)
  rw [Rat.mul_def']
  refine run_stS b [(0, UF.eq (.pointer (some ⟨b, 0, none⟩))), (1, UF.eq (.pointer (some ⟨b', 0, none⟩)))] [⟨0, 59, CU.agg (fQN q), b, false⟩, ⟨1, 59, CU.agg (fQN q'), b', true⟩] Tryz.func73 rfl (by kernel_rfl) (fun x hx => by simp at hx; rcases hx with rfl | rfl <;> exact ⟨by simp, rfl⟩) ⟨⟨cs, rfl, .inr (.inr rfl), hh, hc, qv_noLimb (qn_qv hc hq), fun y hy => by simp at hy; subst hy; exact .inl hne⟩, ⟨cs', rfl, .inl rfl, hh', hc', qv_noLimb (qn_qv hc' hq'), fun y hy => by cases hy⟩, trivial⟩ (fun x hx => by simp at hx; rcases hx with rfl | rfl <;> simp) fun a s => ?_
  refine wpIn_seq ?_
  refine region_goP [0, 1, 2, 7, 14, 19] 28 ((4, .s ((UF.eq (.pointer (some ⟨b, 0, none⟩))).toSF)) :: (5, .u (UF.eq (.pointer (some ⟨b, 0, none⟩)))) :: (6, .s (SF.pb b (CU.agg (fQN (q))).cf)) :: (7, .s (SF.ptr (CU.agg (fQN (q))).cf)) :: (8, .s (SF.ptr ((CU.agg (fQN (q))).cf.at 0))) :: (9, .s (SF.ptr ((CU.agg (fQN (q))).cf.at 0))) :: (10, .s ((fNV ((q).num)).toSF)) :: (11, .s (SF.pb b' (CU.agg (fQN (q'))).cf)) :: (12, .s (SF.ptr (CU.agg (fQN (q'))).cf)) :: (13, .s (SF.ptr ((CU.agg (fQN (q'))).cf.at 0))) :: (14, .s (SF.ptr ((CU.agg (fQN (q'))).cf.at 0))) :: (15, .s ((fNV ((q').num)).toSF)) :: (16, .s (fISV ((m + m')) [(q).num, (q').num])) :: (17, .u (fNV (((q).num * (q').num)))) :: (18, .s (SF.pb b (CU.agg (fQN (q))).cf)) :: (19, .s (SF.ptr (CU.agg (fQN (q))).cf)) :: (20, .s (SF.ptr ((CU.agg (fQN (q))).cf.at 0))) :: (21, .s (SF.ptr ((CU.agg (fQN (q))).cf.at 2))) :: (22, .s ((fNat ((q).den)).toSF)) :: (23, .s (SF.pb b' (CU.agg (fQN (q'))).cf)) :: (24, .s (SF.ptr (CU.agg (fQN (q'))).cf)) :: (25, .s (SF.ptr ((CU.agg (fQN (q'))).cf.at 0))) :: (26, .s (SF.ptr ((CU.agg (fQN (q'))).cf.at 2))) :: (27, .s ((fNat ((q').den)).toSF)) :: (28, .u (fNat (((q).den) * ((q').den)))) :: (29, .s ((UF.eq (.pointer (some ⟨b, 0, none⟩))).toSF)) :: (30, .s ((UF.eq (.pointer (some ⟨b, 0, none⟩))).toSF)) :: (31, .u (UF.eq (.pointer (some ⟨b, 0, none⟩)))) :: []) hmix s (by kernel_rfl)
    (obs_cons (ok_move (fun _ _ _ h => h.1)) <| obs_cons (ok_move (fun _ _ _ h => h.1)) <| obs_cons (ok_move) <| obs_cons (ok_nil (C := (CU.agg (fQN (q))).cf)) <| obs_cons (ok_fld (C := (CU.agg (fQN (q))).cf) 0 (by kernel_rfl)) <| obs_cons (ok_fldn (C := (CU.agg (fQN (q))).cf) 0 0 (by kernel_rfl)) <| obs_cons (ok_ldA (C := (CU.agg (fQN (q))).cf) (k := 0) 2 (by kernel_rfl) (h := qn_num)) <| obs_cons (ok_move) <| obs_cons (ok_nil (C := (CU.agg (fQN (q'))).cf)) <| obs_cons (ok_fld (C := (CU.agg (fQN (q'))).cf) 0 (by kernel_rfl)) <| obs_cons (ok_fldn (C := (CU.agg (fQN (q'))).cf) 0 0 (by kernel_rfl)) <| obs_cons (ok_ldA (C := (CU.agg (fQN (q'))).cf) (k := 0) 2 (by kernel_rfl) (h := qn_num)) <| obs_cons (ok_slice2 (fun u v W (hu : NV W u ((q).num)) (hv : NV W v ((q').num)) => sl_int2 (NV.uv' hu (Bd.mono (hq).1 (m' := (m + m')) (by first | omega | decide))) (NV.uv' hv (Bd.mono (hq').1 (m' := (m + m')) (by first | omega | decide))))) <| obs_cons (ok_call1 wide_wide en_63 (fun u0 W hb (h0 : ISV W ((m + m')) u0 [(q).num, (q').num]) => mul_w (k := ((q).num * (q').num)) h0 (by show (m + m') * 2 + (m + m') + 1 ≤ 40000; omega) (by simp) (by simp))) <| obs_cons (ok_move) <| obs_cons (ok_nil (C := (CU.agg (fQN (q))).cf)) <| obs_cons (ok_fld (C := (CU.agg (fQN (q))).cf) 0 (by kernel_rfl)) <| obs_cons (ok_fldn (C := (CU.agg (fQN (q))).cf) 0 2 (by kernel_rfl)) <| obs_cons (ok_ld (C := (CU.agg (fQN (q))).cf) (k := 2) (by kernel_rfl) (h := qn_den)) <| obs_cons (ok_move) <| obs_cons (ok_nil (C := (CU.agg (fQN (q'))).cf)) <| obs_cons (ok_fld (C := (CU.agg (fQN (q'))).cf) 0 (by kernel_rfl)) <| obs_cons (ok_fldn (C := (CU.agg (fQN (q'))).cf) 0 2 (by kernel_rfl)) <| obs_cons (ok_ld (C := (CU.agg (fQN (q'))).cf) (k := 2) (by kernel_rfl) (h := qn_den)) <| obs_cons (ok_call2 wide_wide en_64 (fun u0 u1 W hb (h0 : NatV W u0 ((q).den)) (h1 : NatV W u1 ((q').den)) => mul_v (LV.mono (NatV.lv h0 hq.2) (m' := (m + m')) (by omega)) (LV.mono (NatV.lv h1 hq'.2) (m' := (m + m')) (by omega)) (by omega))) <| obs_cons (ok_nilE (a := ⟨b, 0, none⟩) (fun _ _ h => h)) <| obs_cons (ok_fldE (b := b) (o := 0) 0 (by kernel_rfl) (fun _ _ h => h)) <| obs_cons (ok_fldE (b := b) (o := 0) 0 (by kernel_rfl) (fun _ _ h => h)) <| obs_nil) fun Q' hQ a w1 s => ?_
  refine t_storeP (c := 0) (o := 0) (kk := 2) (CU.agg (fQK (((q).num * (q').num)) ((q).den))) ((fNV (((q).num * (q').num))).toSF) rfl s (by kernel_rfl) rfl rfl (fun _ _ h => h) (fun _ _ h => h) (sp_numK (k0 := q.num) (d := q.den)) fun a w s => ?_
  refine t_gd (UF.eq (.pointer (some ⟨b, 0, none⟩))) rfl s (by kernel_rfl) (ok_nilE (a := ⟨b, 0, none⟩) (fun _ _ h => h)) (by kernel_rfl) fun a w s => ?_
  refine t_gd (UF.eq (.pointer (some ⟨b, 0, none⟩))) rfl s (by kernel_rfl) (ok_fldE (b := b) (o := 0) 0 (by kernel_rfl) (fun _ _ h => h)) (by kernel_rfl) fun a w s => ?_
  refine t_gd (UF.eq (.pointer (some ⟨b, 2, none⟩))) rfl s (by kernel_rfl) (ok_fldE (b := b) (o := 0) 2 (by kernel_rfl) (fun _ _ h => h)) (by kernel_rfl) fun a w s => ?_
  refine t_storeP (c := 0) (o := 2) (kk := 1) (CU.agg (fQK (((q).num * (q').num)) (((q).den) * ((q').den)))) ((fNat (((q).den) * ((q').den))).toSF) rfl s (by kernel_rfl) rfl rfl (fun _ _ h => h) (fun _ _ h => h) (sp_denK) fun a w s => ?_
  refine tail_end rfl (hQ _ _ ?_)
  refine region_go 1 ((35, .u (UF.eq (.pointer (some ⟨b, 0, none⟩)))) :: []) hmix s (by kernel_rfl)
    (obs_cons (ok_move (fun _ _ _ h => h.1)) <| obs_nil) fun a w2 s => ?_
  refine t_callS1 (c := 0) (CU.agg (fQN (mkRat ((q).num * (q').num) ((q).den * (q').den)))) (UF.any) rfl wide_wide en_57 s (by kernel_rfl) rfl rfl (fun _ _ h => h) (fun cs h1 h2 => ?_) fun a w s => ?_
  · exact (rnorm_any (m := m + m' + 1) h1 (qk_qv h2 bk (Nat.lt_of_lt_of_le (hq.den_mul hq') (Nat.pow_le_pow_right BB_pos (by omega)))) (by omega) (hT.bls hh (qv_bool (qn_qv hc hq)) s.gr)).mono fun e w' ⟨v, g1, _, g2⟩ => ⟨v, g1, trivial, g2⟩
  refine tail_end rfl ?_
  exact StS.resS0 s (c := 0) (C := CU.agg (fQN (mkRat ((q).num * (q').num) ((q).den * (q').den)))) rfl rfl rfl rfl (fun _ => trivial)

end Go.Proofs.Wd


namespace Go.Proofs.Wd
open Go.RowKit Lb

theorem rof_q {W : World} {m : Nat} {v : Value} {q : Rat} (h : RVp m q v W) (hm : m ≤ 1000) (hT : Tab W) : Calls Tryz.prog 43 #[v] W (Ret W (SF.newBox W 59 (CU.agg (fQN q)))) := by
  obtain ⟨k, d, h1, rfl⟩ := h
  exact rof_r h1 hm hT

set_option maxRecDepth 100000 in
theorem rNorm_q {W : World} {m : Nat} {v : Value} {q : Rat} (h : RVp m q v W) (hm : m ≤ 1000) (hm0 : 0 < m) (hT : Tab W) : Calls Tryz.prog 29 #[v] W (Ret W (fQN q).toSF) := by
  have hq : QB q m := h.qb hm0
  refine run_st [(fRV m q).toSF] Tryz.func29 rfl (by kernel_rfl) ⟨h, trivial⟩ fun a s => ?_
  refine wpIn_seq ?_
  refine region_go 0 [] hmix s (by kernel_rfl)
    obs_nil fun a w1 s => ?_
  refine t_box (CU.agg (fRV (m) (q))) rfl s (by kernel_rfl) (fun v W h => rv_box h) fun b1 a w s => ?_
  refine t_alloc (CU.len 3) (cs := [.bool false, .slice none 0 0, .slice none 0 0]) (by kernel_rfl) rfl s (by kernel_rfl) (fun W => rfl) rfl fun b2 a w s => ?_
  refine tail_end rfl ?_
  refine wpIn_seq ?_
  refine region_go 5 ((3, .s ((fRV (m) (q)).toSF)) :: (4, .s (SF.newBox w 59 (CU.agg (fQN (q))))) :: (5, .s (SF.ptr (CU.agg (fQN (q))).cf)) :: (6, .s (SF.ptr ((CU.agg (fQN (q))).cf.at 0))) :: (7, .u (fQN (q))) :: []) hmix s (by kernel_rfl)
    (obs_cons (ok_ldW (f := fRV (m) (q)) 3 (by kernel_rfl) (hz := rv_len _ _)) <| obs_cons (ok_call1 wide_wide en_43 (fun u0 W hb (h0 : RVp (m) (q) u0 W) => (rof_q h0 (by omega) (hT.below (s.up hb))).mono (Ret.to (newBox_old hb.size)))) <| obs_cons (ok_nil (C := (CU.agg (fQN (q))).cf) newBox_ptr) <| obs_cons (ok_fld (C := (CU.agg (fQN (q))).cf) 0 (by kernel_rfl)) <| obs_cons (ok_ldA (C := (CU.agg (fQN (q))).cf) (k := 0) 3 (by kernel_rfl) (h := qn_whole)) <| obs_nil) fun a w2 s => ?_
  refine t_store (CU.agg (fQN (q))) ((fQN (q)).toSF) rfl s (by kernel_rfl) rfl rfl rfl (fun _ _ h => h) (fun _ _ h => h) (qn_store) fun a w s => ?_
  refine tail_end rfl ?_
  refine wpIn_ret ?_
  exact StS.resC s (CU.agg (fQN q)) rfl (by kernel_rfl) rfl rfl (qn_len _) (fun cs W h => h)

set_option maxRecDepth 100000 in
theorem rSign_q {W : World} {m : Nat} {v : Value} {q : Rat} (h : RVp m q v W) (hm : m ≤ 1000) (hm0 : 0 < m) (hT : Tab W) : Calls Tryz.prog 24 #[v] W (Ret W (fI q.num.sign).toSF) := by
  have hq : QB q m := h.qb hm0
  refine run_st [(fRV m q).toSF] Tryz.func24 rfl (by kernel_rfl) ⟨h, trivial⟩ fun a s => ?_
  refine wpIn_seq ?_
  refine region_go 0 [] hmix s (by kernel_rfl)
    obs_nil fun a w1 s => ?_
  refine t_box (CU.agg (fRV (m) (q))) rfl s (by kernel_rfl) (fun v W h => rv_box h) fun b1 a w s => ?_
  refine t_set (UF.eq (.int .i64 (0))) rfl s (by kernel_rfl) (fun _ _ h => h) fun a w s => ?_
  refine tail_end rfl ?_
  refine wpIn_seq ?_
  replace s := s.drop [2]
  refine region_go 8 ((3, .s ((fRV (m) (q)).toSF)) :: (4, .s (SF.newBox w 59 (CU.agg (fQN (q))))) :: (5, .s (SF.ptr (CU.agg (fQN (q))).cf)) :: (6, .s (SF.ptr ((CU.agg (fQN (q))).cf.at 0))) :: (7, .s (SF.ptr ((CU.agg (fQN (q))).cf.at 0))) :: (8, .s ((fNV ((q).num)).toSF)) :: (9, .s ((UF.eq (.int .i64 (q.num.sign))).toSF)) :: (2, .u (UF.eq (.int .i64 (q.num.sign)))) :: []) hmix s (by kernel_rfl)
    (obs_cons (ok_ldW (f := fRV (m) (q)) 3 (by kernel_rfl) (hz := rv_len _ _)) <| obs_cons (ok_call1 wide_wide en_43 (fun u0 W hb (h0 : RVp (m) (q) u0 W) => (rof_q h0 (by omega) (hT.below (s.up hb))).mono (Ret.to (newBox_old hb.size)))) <| obs_cons (ok_nil (C := (CU.agg (fQN (q))).cf) newBox_ptr) <| obs_cons (ok_fld (C := (CU.agg (fQN (q))).cf) 0 (by kernel_rfl)) <| obs_cons (ok_fldn (C := (CU.agg (fQN (q))).cf) 0 0 (by kernel_rfl)) <| obs_cons (ok_ldA (C := (CU.agg (fQN (q))).cf) (k := 0) 2 (by kernel_rfl) (h := qn_num)) <| obs_cons (ok_call1 wide_wide en_65 (fun u0 W hb (h0 : NV W u0 ((q).num)) => calls_eq (sign_v (NV.uv' h0 (hq).1) (by omega)))) <| obs_cons (ok_assign) <| obs_nil) fun a w2 s => ?_
  refine tail_end rfl ?_
  refine wpIn_ret ?_
  exact StS.res1 s (t := 2) rfl (fun _ _ h => h)

set_option maxRecDepth 100000 in
theorem rCmp_q {W : World} {m : Nat} {v v' : Value} {q q' : Rat} (h : RVp m q v W) (h' : RVp m q' v' W) (hm : m ≤ 1000) (hm0 : 0 < m) (hT : Tab W) : Calls Tryz.prog 25 #[v, v'] W (Ret W (fI (qsg q q')).toSF) := by
  have hq : QB q m := h.qb hm0
  have hq' : QB q' m := h'.qb hm0
  refine run_st [(fRV m q).toSF, (fRV m q').toSF] Tryz.func25 rfl (by kernel_rfl) ⟨h, h', trivial⟩ fun a s => ?_
  refine wpIn_seq ?_
  refine region_go 0 [] hmix s (by kernel_rfl)
    obs_nil fun a w1 s => ?_
  refine t_box (CU.agg (fRV (m) (q))) rfl s (by kernel_rfl) (fun v W h => rv_box h) fun b2 a w s => ?_
  refine t_box (CU.agg (fRV (m) (q'))) rfl s (by kernel_rfl) (fun v W h => rv_box h) fun b3 a w s => ?_
  refine t_set (UF.eq (.int .i64 (0))) rfl s (by kernel_rfl) (fun _ _ h => h) fun a w s => ?_
  refine tail_end rfl ?_
  refine wpIn_seq ?_
  have so := s.old; have sg := s.gr
  refine region_goN 6 ((7, .s ((fRV (m) (q)).toSF)) :: (8, .s (SF.newBox w 59 (CU.agg (fQN (q))))) :: (9, .s ((fRV (m) (q')).toSF)) :: (10, .s (SF.newBox w 59 (CU.agg (fQN (q'))))) :: (5, .s (SF.newBox w 59 (CU.agg (fQN (q))))) :: (6, .s (SF.newBox w 59 (CU.agg (fQN (q'))))) :: []) hmix s (by kernel_rfl)
    (obs_cons (ok_ldW (f := fRV (m) (q)) 3 (by kernel_rfl) (hz := rv_len _ _)) <| obs_cons (ok_call1 wide_wide en_43 (fun u0 W hb (h0 : RVp (m) (q) u0 W) => (rof_q h0 (by omega) (hT.below (s.up hb))).mono (Ret.to (newBox_old hb.size)))) <| obs_cons (ok_ldW (f := fRV (m) (q')) 3 (by kernel_rfl) (hz := rv_len _ _)) <| obs_cons (ok_call1 wide_wide en_43 (fun u0 W hb (h0 : RVp (m) (q') u0 W) => (rof_q h0 (by omega) (hT.below (s.up hb))).mono (Ret.to (newBox_old hb.size)))) <| obs_cons (ok_assign) <| obs_cons (ok_assign) <| obs_nil) fun a w2 s hr => ?_
  obtain ⟨b5, _, s⟩ := s.adopt true 5 (hr (_, _) (.tail _ (.tail _ (.tail _ (.tail _ (.head _)))))) sg (fun y hy => .inl (so y hy))
  obtain ⟨b6, _, s⟩ := s.adopt true 6 (hr (_, _) (.tail _ (.tail _ (.tail _ (.tail _ (.tail _ (.head _))))))) sg (fun y hy => by rcases List.mem_cons.1 hy with rfl | hy; exact .inr ⟨rfl, rfl⟩; exact .inl (so y hy))
  refine tail_end rfl ?_
  refine wpIn_seq ?_
  replace s := s.drop [4]
  refine region_go 28 ((11, .s (SF.pb b5 (CU.agg (fQN (q))).cf)) :: (12, .s (SF.ptr (CU.agg (fQN (q))).cf)) :: (13, .s (SF.ptr ((CU.agg (fQN (q))).cf.at 0))) :: (14, .s (SF.ptr ((CU.agg (fQN (q))).cf.at 0))) :: (15, .s ((fNV ((q).num)).toSF)) :: (16, .s (SF.pb b6 (CU.agg (fQN (q'))).cf)) :: (17, .s (SF.ptr (CU.agg (fQN (q'))).cf)) :: (18, .s (SF.ptr ((CU.agg (fQN (q'))).cf.at 0))) :: (19, .s (SF.ptr ((CU.agg (fQN (q'))).cf.at 2))) :: (20, .s ((fNat ((q').den)).toSF)) :: (21, .s ((fNV ((((q').den : Nat) : Int))).toSF)) :: (22, .s (fISV ((m + m)) [(q).num, (((q').den : Nat) : Int)])) :: (23, .s ((fNV (((q).num * (((q').den : Nat) : Int)))).toSF)) :: (24, .s (SF.pb b6 (CU.agg (fQN (q'))).cf)) :: (25, .s (SF.ptr (CU.agg (fQN (q'))).cf)) :: (26, .s (SF.ptr ((CU.agg (fQN (q'))).cf.at 0))) :: (27, .s (SF.ptr ((CU.agg (fQN (q'))).cf.at 0))) :: (28, .s ((fNV ((q').num)).toSF)) :: (29, .s (SF.pb b5 (CU.agg (fQN (q))).cf)) :: (30, .s (SF.ptr (CU.agg (fQN (q))).cf)) :: (31, .s (SF.ptr ((CU.agg (fQN (q))).cf.at 0))) :: (32, .s (SF.ptr ((CU.agg (fQN (q))).cf.at 2))) :: (33, .s ((fNat ((q).den)).toSF)) :: (34, .s ((fNV ((((q).den : Nat) : Int))).toSF)) :: (35, .s (fISV ((m + m)) [(q').num, (((q).den : Nat) : Int)])) :: (36, .s ((fNV (((q').num * (((q).den : Nat) : Int)))).toSF)) :: (37, .s ((UF.eq (.int .i64 (qsg q q'))).toSF)) :: (4, .u (UF.eq (.int .i64 (qsg q q')))) :: []) hmix s (by kernel_rfl)
    (obs_cons (ok_move) <| obs_cons (ok_nil (C := (CU.agg (fQN (q))).cf)) <| obs_cons (ok_fld (C := (CU.agg (fQN (q))).cf) 0 (by kernel_rfl)) <| obs_cons (ok_fldn (C := (CU.agg (fQN (q))).cf) 0 0 (by kernel_rfl)) <| obs_cons (ok_ldA (C := (CU.agg (fQN (q))).cf) (k := 0) 2 (by kernel_rfl) (h := qn_num)) <| obs_cons (ok_move) <| obs_cons (ok_nil (C := (CU.agg (fQN (q'))).cf)) <| obs_cons (ok_fld (C := (CU.agg (fQN (q'))).cf) 0 (by kernel_rfl)) <| obs_cons (ok_fldn (C := (CU.agg (fQN (q'))).cf) 0 2 (by kernel_rfl)) <| obs_cons (ok_ld (C := (CU.agg (fQN (q'))).cf) (k := 2) (by kernel_rfl) (h := qn_den)) <| obs_cons (ok_call1 wide_wide en_67 (fun u0 W hb (h0 : NatV W u0 ((q').den)) => whole_v h0)) <| obs_cons (ok_slice2 (fun u v W (hu : NV W u ((q).num)) (hv : NV W v ((((q').den : Nat) : Int))) => sl_int2 (NV.uv' hu (Bd.mono (hq).1 (m' := (m + m)) (by first | omega | decide))) (NV.uv' hv (Bd.mono (bd_nat hq'.2) (m' := (m + m)) (by first | omega | decide))))) <| obs_cons (ok_call1 wide_wide en_63 (fun u0 W hb (h0 : ISV W ((m + m)) u0 [(q).num, (((q').den : Nat) : Int)]) => mul_w (k := ((q).num * (((q').den : Nat) : Int))) h0 (by show (m + m) * 2 + (m + m) + 1 ≤ 40000; omega) (by simp) (by simp))) <| obs_cons (ok_move) <| obs_cons (ok_nil (C := (CU.agg (fQN (q'))).cf)) <| obs_cons (ok_fld (C := (CU.agg (fQN (q'))).cf) 0 (by kernel_rfl)) <| obs_cons (ok_fldn (C := (CU.agg (fQN (q'))).cf) 0 0 (by kernel_rfl)) <| obs_cons (ok_ldA (C := (CU.agg (fQN (q'))).cf) (k := 0) 2 (by kernel_rfl) (h := qn_num)) <| obs_cons (ok_move) <| obs_cons (ok_nil (C := (CU.agg (fQN (q))).cf)) <| obs_cons (ok_fld (C := (CU.agg (fQN (q))).cf) 0 (by kernel_rfl)) <| obs_cons (ok_fldn (C := (CU.agg (fQN (q))).cf) 0 2 (by kernel_rfl)) <| obs_cons (ok_ld (C := (CU.agg (fQN (q))).cf) (k := 2) (by kernel_rfl) (h := qn_den)) <| obs_cons (ok_call1 wide_wide en_67 (fun u0 W hb (h0 : NatV W u0 ((q).den)) => whole_v h0)) <| obs_cons (ok_slice2 (fun u v W (hu : NV W u ((q').num)) (hv : NV W v ((((q).den : Nat) : Int))) => sl_int2 (NV.uv' hu (Bd.mono (hq').1 (m' := (m + m)) (by first | omega | decide))) (NV.uv' hv (Bd.mono (bd_nat hq.2) (m' := (m + m)) (by first | omega | decide))))) <| obs_cons (ok_call1 wide_wide en_63 (fun u0 W hb (h0 : ISV W ((m + m)) u0 [(q').num, (((q).den : Nat) : Int)]) => mul_w (k := ((q').num * (((q).den : Nat) : Int))) h0 (by show (m + m) * 2 + (m + m) + 1 ≤ 40000; omega) (by simp) (by simp))) <| obs_cons (ok_call2 wide_wide en_66 (fun u0 u1 W hb (h0 : NV W u0 (((q).num * (((q').den : Nat) : Int)))) (h1 : NV W u1 (((q').num * (((q).den : Nat) : Int)))) => calls_eq (cmp_v (NV.uv' h0 (Bd.mul (hq).1 (bd_nat hq'.2))) (NV.uv' h1 (Bd.mul (hq').1 (bd_nat hq.2))) (by omega)))) <| obs_cons (ok_assign) <| obs_nil) fun a w3 s => ?_
  refine tail_end rfl ?_
  refine wpIn_ret ?_
  exact StS.res1 s (t := 4) rfl (fun _ _ h => h)

set_option maxRecDepth 100000 in
theorem rSame_q {W : World} {m : Nat} {v v' : Value} {q q' : Rat} (h : RVp m q v W) (h' : RVp m q' v' W) (hm : m ≤ 1000) (hm0 : 0 < m) (hT : Tab W) : Calls Tryz.prog 26 #[v, v'] W (Ret W (fB (qsg q q' == 0)).toSF) := by
  refine run_st [(fRV m q).toSF, (fRV m q').toSF] Tryz.func26 rfl (by kernel_rfl) ⟨h, h', trivial⟩ fun a s => ?_
  refine wpIn_seq ?_
  refine region_go 0 [] hmix s (by kernel_rfl)
    obs_nil fun a w1 s => ?_
  refine t_box (CU.agg (fRV (m) (q))) rfl s (by kernel_rfl) (fun v W h => rv_box h) fun b2 a w s => ?_
  refine t_box (CU.agg (fRV (m) (q'))) rfl s (by kernel_rfl) (fun v W h => rv_box h) fun b3 a w s => ?_
  refine t_set (UF.eq (.bool false)) rfl s (by kernel_rfl) (fun _ _ h => h) fun a w s => ?_
  refine tail_end rfl ?_
  refine wpIn_seq ?_
  replace s := s.drop [4]
  refine region_go 5 ((5, .s ((fRV (m) (q)).toSF)) :: (6, .s ((fRV (m) (q')).toSF)) :: (7, .s ((UF.eq (.int .i64 (qsg q q'))).toSF)) :: (8, .s ((UF.eq (.bool (qsg q q' == 0))).toSF)) :: (4, .u (UF.eq (.bool (qsg q q' == 0)))) :: []) hmix s (by kernel_rfl)
    (obs_cons (ok_ldW (f := fRV (m) (q)) 3 (by kernel_rfl) (hz := rv_len _ _)) <| obs_cons (ok_ldW (f := fRV (m) (q')) 3 (by kernel_rfl) (hz := rv_len _ _)) <| obs_cons (ok_call2 wide_wide en_25 (fun u0 u1 W hb (h0 : RVp (m) (q) u0 W) (h1 : RVp (m) (q') u1 W) => rCmp_q h0 h1 hm hm0 (hT.below (s.up hb)))) <| obs_cons (ok_bin (.int .i64 (qsg q q')) (.int .i64 0) (.bool (qsg q q' == 0)) (fun _ _ h => h) (fun _ _ h => h) (fun _ => rfl) (fun _ => rfl) (fun _ => rfl)) <| obs_cons (ok_assign) <| obs_nil) fun a w2 s => ?_
  refine tail_end rfl ?_
  refine wpIn_ret ?_
  exact StS.res1 s (t := 4) rfl (fun _ _ h => h)

set_option maxRecDepth 100000 in
theorem rNeg_q {W : World} {m : Nat} {v : Value} {q : Rat} (h : RVp m q v W) (hm : m ≤ 1000) (hm0 : 0 < m) (hT : Tab W) : Calls Tryz.prog 31 #[v] W (Ret W (fQN (-q)).toSF) := by
  have hq : QB q m := h.qb hm0
  refine run_st [(fRV m q).toSF] Tryz.func31 rfl (by kernel_rfl) ⟨h, trivial⟩ fun a s => ?_
  refine wpIn_seq ?_
  refine region_go 0 [] hmix s (by kernel_rfl)
    obs_nil fun a w1 s => ?_
  refine t_box (CU.agg (fRV (m) (q))) rfl s (by kernel_rfl) (fun v W h => rv_box h) fun b1 a w s => ?_
  refine t_alloc (CU.len 3) (cs := [.bool false, .slice none 0 0, .slice none 0 0]) (by kernel_rfl) rfl s (by kernel_rfl) (fun W => rfl) rfl fun b2 a w s => ?_
  refine tail_end rfl ?_
  refine wpIn_seq ?_
  have so := s.old; have sg := s.gr
  refine region_goN 3 ((4, .s ((fRV (m) (q)).toSF)) :: (5, .s (SF.newBox w 59 (CU.agg (fQN (q))))) :: (3, .s (SF.newBox w 59 (CU.agg (fQN (q))))) :: []) hmix s (by kernel_rfl)
    (obs_cons (ok_ldW (f := fRV (m) (q)) 3 (by kernel_rfl) (hz := rv_len _ _)) <| obs_cons (ok_call1 wide_wide en_43 (fun u0 W hb (h0 : RVp (m) (q) u0 W) => (rof_q h0 (by omega) (hT.below (s.up hb))).mono (Ret.to (newBox_old hb.size)))) <| obs_cons (ok_assign) <| obs_nil) fun a w2 s hr => ?_
  obtain ⟨b3, _, s⟩ := s.adopt false 3 (hr (_, _) (.tail _ (.tail _ (.head _)))) sg (fun y hy => .inl (so y hy))
  refine tail_end rfl ?_
  refine wpIn_seq ?_
  refine region_go 10 ((6, .s ((UF.eq (.pointer (some ⟨b3, 0, none⟩))).toSF)) :: (7, .s (SF.pb b3 (CU.agg (fQN (q))).cf)) :: (8, .s (SF.ptr (CU.agg (fQN (q))).cf)) :: (9, .s (SF.ptr ((CU.agg (fQN (q))).cf.at 0))) :: (10, .s (SF.ptr ((CU.agg (fQN (q))).cf.at 0))) :: (11, .s ((fNV ((q).num)).toSF)) :: (12, .u (fNV ((-(q).num)))) :: (13, .s ((UF.eq (.pointer (some ⟨b3, 0, none⟩))).toSF)) :: (14, .s ((UF.eq (.pointer (some ⟨b3, 0, none⟩))).toSF)) :: (15, .u (UF.eq (.pointer (some ⟨b3, 0, none⟩)))) :: []) hmix s (by kernel_rfl)
    (obs_cons (ok_move (fun _ _ _ h => h.1)) <| obs_cons (ok_move) <| obs_cons (ok_nil (C := (CU.agg (fQN (q))).cf)) <| obs_cons (ok_fld (C := (CU.agg (fQN (q))).cf) 0 (by kernel_rfl)) <| obs_cons (ok_fldn (C := (CU.agg (fQN (q))).cf) 0 0 (by kernel_rfl)) <| obs_cons (ok_ldA (C := (CU.agg (fQN (q))).cf) (k := 0) 2 (by kernel_rfl) (h := qn_num)) <| obs_cons (ok_call1 wide_wide en_69 (fun u0 W hb (h0 : NV W u0 ((q).num)) => neg_v (NV.uv' h0 (hq).1) (by omega))) <| obs_cons (ok_nilE (a := ⟨b3, 0, none⟩) (fun _ _ h => h)) <| obs_cons (ok_fldE (b := b3) (o := 0) 0 (by kernel_rfl) (fun _ _ h => h)) <| obs_cons (ok_fldE (b := b3) (o := 0) 0 (by kernel_rfl) (fun _ _ h => h)) <| obs_nil) fun a w3 s => ?_
  refine t_storeP (c := 3) (o := 0) (kk := 2) (CU.agg (fQN (-q))) ((fNV ((-(q).num))).toSF) rfl s (by kernel_rfl) rfl rfl (fun _ _ h => h) (fun _ _ h => h) (sp_numK (k0 := q.num) (d := q.den)) fun a w s => ?_
  refine tail_end rfl ?_
  refine wpIn_seq ?_
  refine region_go 4 ((16, .s (SF.pb b3 (CU.agg (fQN (-q))).cf)) :: (17, .s (SF.ptr (CU.agg (fQN (-q))).cf)) :: (18, .s (SF.ptr ((CU.agg (fQN (-q))).cf.at 0))) :: (19, .u (fQN (-q))) :: []) hmix s (by kernel_rfl)
    (obs_cons (ok_move) <| obs_cons (ok_nil (C := (CU.agg (fQN (-q))).cf)) <| obs_cons (ok_fld (C := (CU.agg (fQN (-q))).cf) 0 (by kernel_rfl)) <| obs_cons (ok_ldA (C := (CU.agg (fQN (-q))).cf) (k := 0) 3 (by kernel_rfl) (h := qn_whole)) <| obs_nil) fun a w4 s => ?_
  refine t_store (CU.agg (fQN (-q))) ((fQN (-q)).toSF) rfl s (by kernel_rfl) rfl rfl rfl (fun _ _ h => h) (fun _ _ h => h) (qn_store) fun a w s => ?_
  refine tail_end rfl ?_
  refine wpIn_ret ?_
  exact StS.resC s (CU.agg (fQN (-q))) rfl (by kernel_rfl) rfl rfl (qn_len _) (fun cs W h => h)

end Go.Proofs.Wd


namespace Go.Proofs.Wd
open Go.RowKit Lb
attribute [local go_sem] Oper.semAt_some wide_fn wide_depth

structure QRd (m : Nat) (w : World) (A : Option Addr) (n : Nat) (qs : List Rat) : Prop where
  len : qs.length = n
  cells : ∀ i, i < n → ∃ b o c0 c1 c2 q, A = some ⟨b, o, none⟩ ∧ w.cell? ⟨b, o + i * 3, none⟩ = some c0 ∧ w.cell? ⟨b, o + i * 3 + 1, none⟩ = some c1 ∧ w.cell? ⟨b, o + i * 3 + 2, none⟩ = some c2 ∧ qs[i]? = some q ∧ RVp m q (.agg #[c0, c1, c2]) w
theorem RVp.keep {m : Nat} {q : Rat} {v : Value} {w w' : World} (h : RVp m q v w) (hk : ∀ p : Addr, p.block < w.heap.size → w'.cell? p = w.cell? p) : RVp m q v w' := by
  obtain ⟨k, d, ⟨b, s, t, e, ⟨sg, A, n, c, l, e1, h1, h2⟩, A', n', c', l', e2, h1', h2'⟩, h3⟩ := h
  exact ⟨k, d, ⟨b, s, t, e, ⟨sg, A, n, c, l, e1, h1.keep hk, h2⟩, A', n', c', l', e2, h1'.keep hk, h2'⟩, h3⟩
theorem QRd.keep {m : Nat} {w w' : World} {A : Option Addr} {n : Nat} {qs : List Rat} (h : QRd m w A n qs) (hk : ∀ p : Addr, p.block < w.heap.size → w'.cell? p = w.cell? p) : QRd m w' A n qs :=
  ⟨h.len, fun i hi => by
    obtain ⟨b, o, c0, c1, c2, q, e, g0, g1, g2, h1, h2⟩ := h.cells i hi
    exact ⟨b, o, c0, c1, c2, q, e, (hk _ (World.block_lt_of_cell? w _ g0)).trans g0, (hk _ (World.block_lt_of_cell? w _ g1)).trans g1, (hk _ (World.block_lt_of_cell? w _ g2)).trans g2, h1, h2.keep hk⟩⟩
theorem QRd.below {m : Nat} {w w' : World} {A : Option Addr} {n : Nat} {qs : List Rat} (h : QRd m w A n qs) (hb : Below w.heap.size w w') : QRd m w' A n qs := h.keep fun _ hp => hb.cell hp
theorem RVp.below {m : Nat} {q : Rat} {v : Value} {w w' : World} (h : RVp m q v w) (hb : Below w.heap.size w w') : RVp m q v w' := h.keep fun _ hp => hb.cell hp
def qAt (qs : List Rat) (k : Nat) : Rat := (qs[k]?).getD 0
def NumQ (W : World) (B : Nat) (q : Rat) : Prop := ∃ cs : List Value, W.heap[B]? = some (.cells cs.toArray 59 (0, 0)) ∧ QNp q (.agg cs.toArray) W
theorem QNp.keepU {q : Rat} {v : Value} {w w' : World} (h : QNp q v w) (hk : KeepU w w') : QNp q v w' := (fQN q).us _ _ _ h hk
theorem NumQ.kept {W W' : World} {B : Nat} {q : Rat} (h : NumQ W B q) (hb : Below W.heap.size W W') : NumQ W' B q := by
  obtain ⟨cs, h1, h2⟩ := h
  exact ⟨cs, (hb.block _ (Array.getElem?_eq_some_iff.1 h1).1).trans h1, h2.keepU (keepU_below hb)⟩
theorem NumQ.lt {W : World} {B : Nat} {q : Rat} (h : NumQ W B q) : B < W.heap.size := by
  obtain ⟨cs, h1, _⟩ := h
  exact (Array.getElem?_eq_some_iff.1 h1).1
def AllQ (N0 : Nat) (qs : List Rat) (k : Nat) (xs : Array Value) (W : World) : Prop := ∃ B, xs = #[.pointer (some ⟨B, 0, none⟩)] ∧ N0 ≤ B ∧ NumQ W B (qAt qs k)

set_option maxHeartbeats 400000 in
theorem qall_any (A : Option Addr) (n c : Nat) (w : World) :
    Calls Tryz.prog 71 #[.slice A n c] w fun e w' => e = .returned (.func (.func 101) #[] #[.pointer (some ⟨w.heap.size, 0, none⟩)]) ∧ w' = w.alloc (.cells #[.slice A n c] 44) := by
  go_enter Tryz.func71, Tryz.ntmps71
  go_wp2
  go_ret
  exact ⟨rfl, rfl⟩

theorem rof_n {W : World} {m : Nat} {c0 c1 c2 : Value} {q : Rat} (h : RVp m q (.agg #[c0, c1, c2]) W) (hm : m ≤ 1000) (hT : Tab W) : Calls Tryz.prog 43 #[.agg #[c0, c1, c2]] W fun e w' => ∃ B, e = .returned (.pointer (some ⟨B, 0, none⟩)) ∧ W.heap.size ≤ B ∧ NumQ w' B q ∧ Below W.heap.size W w' :=
  (rof_q h hm hT).mono fun _ _ ⟨_, e1, ⟨B, cs, e2, h1, h2, h3, _⟩, hb⟩ => ⟨B, by rw [e1, e2], h1, ⟨cs, h2, h3⟩, hb⟩

set_option maxRecDepth 100000 in
set_option maxHeartbeats 1000000 in
theorem qall1_iter (m : Nat) (hm : m ≤ 1000) (A : Option Addr) (n c : Nat) (qs : List Rat) (b1 : Nat) (w w0 : World) (h : QRd m w A n qs) (hT : Tab w) (hw0 : Below w.heap.size w w0) (hn : n ≤ c) (hc : c ≤ 9223372036854775807)
    (hc1 : w0.cell? ⟨b1, 0, none⟩ = some (.slice A n c)) {S : Nat → Prop} (hS : ∀ b, S b → b < w0.heap.size) (_hS1 : S b1) (hSA : ∀ b, b < w.heap.size → S b) :
    IterE Tryz.prog 101 #[.pointer (some ⟨b1, 0, none⟩)] (AllQ w0.heap.size qs) n (KeepZ S) Mk (fun _ => True) w0 := by
  intro lp J W hW hJ hY h0
  have hl1 := lt_of_cell hc1
  have hw1 := (hW.cell (p := ⟨b1, 0, none⟩) hl1).trans hc1
  refine calls_in Tryz.func101 rfl ?_
  simp only [Tryz.ntmps101, List.size_toArray, List.length_cons, List.length_nil, Nat.reduceAdd, Nat.reduceSub, Array.replicate_succ, Array.replicate_zero, List.push_toArray, List.append_toArray, List.nil_append, List.cons_append]
  gi_wp2
  gi_loopw [7] (fun i wr => ∃ k : Nat, k ≤ n ∧ i = .int .i64 k ∧ J k wr ∧ KeepS S w0 wr ∧ w0.heap.size ≤ wr.heap.size) (fun i _ => n - (intOf i).toNat)
  case atStart => exact ⟨0, Nat.zero_le _, rfl, h0, KeepS.of_below hW hS, hW.size⟩
  case round =>
    obtain ⟨k, hk, rfl, hj, hb, hz⟩ := hrel
    by_cases hkn : k < n
    · have hkeep : ∀ p : Addr, p.block < w.heap.size → wr.cell? p = w.cell? p := fun p hp => (hb.cell (hSA _ hp)).trans (hw0.cell hp)
      obtain ⟨b, o, c0, c1, c2, q, rfl, p0, p1, p2, hi, hr⟩ := (h.keep (w' := wr) hkeep).cells k hkn
      have hTr : Tab wr := fun j hj => (hkeep ⟨0, j, none⟩ (lt_of_cell (hT j hj))).trans (hT j hj)
      have hid1 : qAt qs k = q := by simp [qAt, hi]
      have hjk := hJ k wr
      have hHI := hid hi
      clear hi
      obtain ⟨sg, A1, n1, d1, A2, n2, d2, rfl, rfl, rfl⟩ : ∃ sg A1 n1 d1 A2 n2 d2, c0 = .bool sg ∧ c1 = .slice A1 n1 d1 ∧ c2 = .slice A2 n2 d2 := by
        obtain ⟨k', d', hq, _⟩ := hr
        obtain ⟨sg, A1, n1, d1, A2, n2, d2, e⟩ := qv_form hq
        have := congrArg Array.toList (agg_inj e)
        simp at this
        exact ⟨sg, A1, n1, d1, A2, n2, d2, this.1, this.2.1, this.2.2⟩
      gi_wp2_with (first | (gi_at_call 43; refine CallsIn.mono (callsIn_wide.2 (rof_n (hr.below (alloc_b _ _)) hm (hTr.below (alloc_b _ _)))) ?_; rintro e w2 ⟨B2, rfl, hB2, hn2, hb2⟩; have hmk : Mk wr w2 := ((Below.refl _ wr).alloc (Nat.le_refl _) _).trans (hb2.mono (by simp)); obtain ⟨fn, tmps, assign, body, hy, hR⟩ := hY k w2 #[.pointer (some ⟨B2, 0, none⟩)] hkn (hjk _ hj hmk) ⟨B2, rfl, Nat.le_trans hz (Nat.le_trans (by simp) hB2), by rw [hid1]; exact hn2⟩) | (refine hR.mono ?_; rintro e W3 ⟨rfl, hJ3, hk3⟩))
      refine ⟨⟨k + 1, by omega, rfl, hJ3, (hb.trans (KeepS.of_below hmk fun b hb => Nat.lt_of_lt_of_le (hS b hb) hz)).trans hk3.1, Nat.le_trans hz (Nat.le_trans hmk.size hk3.2)⟩, ?_⟩
      simp [intOf]
      omega
    · obtain rfl : k = n := by omega
      gi_wp2
      go_end0
      exact ⟨⟨_, rfl⟩, hj, trivial⟩

def qsum (qs : List Rat) : Nat → Rat
  | 0 => 0
  | k + 1 => qsum qs k + qAt qs k
def qprod (qs : List Rat) : Nat → Rat
  | 0 => 1
  | k + 1 => qprod qs k * qAt qs k
def SaddQ (w : World) (B0 P : Nat) (f : Nat → Rat) (k : Nat) (W : World) : Prop :=
  NumQ W B0 (f k) ∧ Boxed W P 53 (.pointer (some ⟨B0, 0, none⟩)) ∧ BoxN W w.heap.size 27 #[.bool false, .slice none 0 0, .slice none 0 0] ∧ Below w.heap.size w W ∧ P + 2 ≤ W.heap.size ∧ w.heap.size < B0
theorem NumQ.abide {W W' : World} {B C : Nat} {q : Rat} {row : Option Nat} (h : NumQ W B q) (hg : W.grownBy W' row) (hr : ∀ r, row = some r → C ≤ r ∧ ∃ o, W.heap[r]? = some o ∧ o.isCells = false) : NumQ W' B q := by
  obtain ⟨cs, h1, h2⟩ := h
  have hk : KeepU W W' := fun p x hp => cell_abide hp hg hr
  refine ⟨cs, (hg.block _ (Array.getElem?_eq_some_iff.1 h1).1 fun e => ?_).trans h1, h2.keepU hk⟩
  obtain ⟨_, o, ho, hc⟩ := hr _ e.symm
  rw [h1] at ho
  cases ho
  cases hc
theorem saddQ_own (w : World) (B0 P : Nat) (f : Nat → Rat) {C : Nat} (hC : w.heap.size ≤ C) : OwnFrom C (SaddQ w B0 P f) := by
  rintro k W W' row ⟨h1, h2, h3, h4, h5, h6⟩ hg hr
  exact ⟨h1.abide hg hr, boxed_abide h2 hg hr, h3.abide hg hr, below_abide h4 hg (Nat.le_refl _) hC hr, Nat.le_trans h5 hg.size, h6⟩

set_option maxRecDepth 100000 in
set_option maxHeartbeats 1000000 in
theorem rAdd_any (m M : Nat) (A : Option Addr) (n c : Nat) (qs : List Rat) (w : World) (h : QRd m w A n qs) (hn : n ≤ c) (hc : c ≤ 9223372036854775807) (hm : m ≤ 1000) (hm0 : 0 < m) (hM : M + m + 1 ≤ 1000) (hp : ∀ k, k ≤ n → QB (qsum qs k) M) (hT : Tab w) :
    Calls Tryz.prog 33 #[.slice A n c] w (Ret w (fQN (qsum qs n)).toSF) := by
  refine calls_marks Tryz.func33 rfl ?_
  simp only [Tryz.ntmps33, List.size_toArray, List.length_cons, List.length_nil, Nat.reduceAdd, Nat.reduceSub, Array.replicate_succ, Array.replicate_zero, List.push_toArray, List.append_toArray, List.nil_append, List.cons_append]
  go_wp2_with (first | (go_at_call 28; refine (rof_v 0 (by decide)).mono ?_; rintro e w1 ⟨v1, rfl, hv1, hb1⟩; obtain ⟨A1, n1, c1, A2, n2, c2, rfl⟩ := qn_form hv1) | (go_at_call 71; refine (qall_any A n c _).mono ?_; rintro e w3 ⟨rfl, rfl⟩))
  have hv2 : QNp 0 (.agg #[.bool false, .slice A1 n1 c1, .slice A2 n2 c2]) w1 := hv1
  obtain ⟨W0, hW0⟩ : ∃ W0, (((w1.alloc (.cells #[.bool false, .slice A1 n1 c1, .slice A2 n2 c2] 59)).alloc (.cells #[.pointer (some ⟨w1.heap.size, 0, none⟩)] 53)).alloc (.cells #[.slice A n c] 44)) = W0 := ⟨_, rfl⟩
  have hsz : W0.heap.size = w1.heap.size + 3 := by rw [← hW0]; simp
  have hbw1 : Below w.heap.size w w1 := ((Below.refl _ w).alloc (Nat.le_refl _) _).trans (hb1.mono (by simp))
  have hsz1 : w.heap.size < w1.heap.size := Nat.lt_of_lt_of_le (by simp) hb1.size
  have hb01 : Below w1.heap.size w1 W0 := by rw [← hW0]; exact (((Below.refl _ w1).alloc (Nat.le_refl _) _).alloc (by simp) _).alloc (by simp; omega) _
  have hB1 : Below w.heap.size w W0 := hbw1.trans (hb01.mono hbw1.size)
  have x0 : NumQ W0 w1.heap.size 0 := ⟨[_, _, _], (by rw [← hW0]; exact ((BoxN.new w1 _ #[.bool false, .slice A1 n1 c1, .slice A2 n2 c2]).alloc _).alloc _), hv2.keepU (keepU_below hb01)⟩
  have x1 : Boxed W0 (w1.heap.size + 1) 53 (.pointer (some ⟨w1.heap.size, 0, none⟩)) := by rw [← hW0]; exact (boxed_at _ _ _ (by simp)).alloc _
  have x2 : Boxed W0 (w1.heap.size + 1 + 1) 44 (.slice A n c) := by rw [← hW0]; exact boxed_at _ _ _ (by simp)
  have x3 : BoxN W0 w.heap.size 27 #[.bool false, .slice none 0 0, .slice none 0 0] := (BoxN.kept (BoxN.kept (BoxN.new w _ _) hb1) hb01)
  rw [hW0]
  clear hW0
  have hSb : ∀ b, (b < w.heap.size ∨ b = w1.heap.size + 1 + 1) → b < W0.heap.size := fun b hb => by have := hbw1.size; omega
  refine wp_rangeE (gf := 101) rfl (enters_of Tryz.func101 (by kernel_rfl) rfl) (qall1_iter m hm A n c qs (w1.heap.size + 1 + 1) w W0 h hT hB1 hn hc x2.cell (S := fun b => b < w.heap.size ∨ b = w1.heap.size + 1 + 1) hSb (.inr rfl) (fun b hb => .inl hb)) ?hE ?hps KeepZ.trans (keepZ_b hSb)
    (SaddQ w w1.heap.size (w1.heap.size + 1) (qsum qs)) (saddQ_own w _ _ _ hB1.size) (abide_mk (saddQ_own w _ _ _ (Nat.le_refl _))) Mk.keeps (fun _ _ _ _ _ _ _ _ => trivial) ⟨x0, x1, x3, hB1, by omega, hsz1⟩
    (fun xs => { tmps := #[.slice A n c, undef, .pointer (some ⟨w.heap.size, 0, none⟩), .pointer (some ⟨w1.heap.size + 1, 0, none⟩), xs.getD 0 undef, .agg #[.bool false, .slice A1 n1 c1, .slice A2 n2 c2], .agg #[.bool false, .slice A1 n1 c1, .slice A2 n2 c2], .pointer (some ⟨w1.heap.size, 0, none⟩), .slice A n c, .func (.func 101) #[] #[.pointer (some ⟨w1.heap.size + 1 + 1, 0, none⟩)], xs.getD 0 undef, undef, undef, undef, undef, undef, undef, undef], defers := [] }) ?assign ?body ?done
  case hE =>
    rintro k xs W l o o' ⟨B, rfl, h1, h2⟩ ho hc
    exact ⟨B, rfl, h1, h2.abide (C := 0) (grownBy_putObj' W l o') (fun r e => by cases e; exact ⟨Nat.zero_le _, o, ho, hc⟩)⟩
  case hps =>
    rintro k xs W ⟨B, rfl, _⟩
    rfl
  case assign =>
    rintro lp k xs W K ⟨B, rfl, h1, h2⟩ hK
    gi_wp2
    exact hK
  case body =>
    rintro lp k xs W hk ⟨h1, h2, h3, h4, h5, h6⟩ ⟨B, rfl, hB, hnb⟩
    have hc2 := h2.cell
    have hne : B ≠ w1.heap.size := by omega
    have hbd := hp k (Nat.le_of_lt hk)
    have hbd2 : QB (qAt qs k) m := by
      obtain ⟨_, _, _, _, _, q, _, _, _, _, e, hr⟩ := h.cells k hk
      rw [show qAt qs k = q from by simp [qAt, e]]
      exact hr.qb hm0
    have hTW : Tab W := hT.below h4
    gi_wp2_with (gi_at_call 72; refine CallsIn.mono (callsIn_wide.2 (by
      obtain ⟨cs, g1, g2⟩ := h1
      obtain ⟨cs', g1', g2'⟩ := hnb
      exact numadd_r g1 g2 g1' g2' hne hbd hbd2 (by omega) hTW)) ?_; rintro e w3 ⟨u, rfl, _, hg3, cs3, hh3, hc3, _⟩)
    refine ⟨(KeepsOthers.of_grownBy hg3 (fun j o e ho => by cases e; obtain ⟨cs, g1, _⟩ := h1; rw [g1] at ho; cases ho; rfl)).from _, ⟨(KeepS.refl _ _).grown hg3 (fun b hb => ⟨by have := h4.size; rcases hb with hb | hb <;> omega, fun e => by have := Option.some.inj e; omega⟩), hg3.size⟩, ⟨cs3, hh3, hc3⟩, h2.kept hg3 (fun e => by have := Option.some.inj e; omega), (hg3.block _ h3.lt (fun e => by have := Option.some.inj e; omega)).trans h3, below_grown h4 hg3 h4.size (by omega), Nat.le_trans h5 hg3.size, h6⟩
  case done =>
    rintro D W hD ⟨h1, h2, h3, h4, h5, h6⟩ _ hd
    obtain ⟨cs, hh, hq⟩ := h1
    obtain ⟨A3, n3, c3, A4, n4, c4, ecs⟩ := qn_form hq
    have ecs := congrArg Array.toList (agg_inj ecs)
    simp at ecs
    subst ecs
    obtain ⟨g0, g1, g2⟩ : W.cell? ⟨w1.heap.size, 0, none⟩ = some (.bool (decide ((qsum qs n).num < 0))) ∧ W.cell? ⟨w1.heap.size, 0 + 1, none⟩ = some (.slice A3 n3 c3) ∧ W.cell? ⟨w1.heap.size, 0 + 2, none⟩ = some (.slice A4 n4 c4) := ⟨mem_block hh 0 _ rfl, mem_block hh 1 _ rfl, mem_block hh 2 _ rfl⟩
    simp only [Nat.zero_add] at g1 g2
    have hc2 := h2.cell
    have q0 : W.cell? ⟨w.heap.size, 0, none⟩ = some (.bool false) := h3.cell 0
    have q1 : W.cell? ⟨w.heap.size, 1, none⟩ = some (.slice none 0 0) := h3.cell 1
    have q2 : W.cell? ⟨w.heap.size, 2, none⟩ = some (.slice none 0 0) := h3.cell 2
    have q3 := h3.frozen 0; have q4 := h3.frozen 1; have q5 := h3.frozen 2
    go_wp2
    have hb5 : BoxN (((W.setCell ⟨w.heap.size, 0, none⟩ (.bool (decide ((qsum qs n).num < 0)))).setCell ⟨w.heap.size, 1, none⟩ (.slice A3 n3 c3)).setCell ⟨w.heap.size, 2, none⟩ (.slice A4 n4 c4)) w.heap.size 27 #[.bool (decide ((qsum qs n).num < 0)), .slice A3 n3 c3, .slice A4 n4 c4] := ((h3.set 0 _).set 1 _).set 2 _
    have hM2 : Marks w.heap.size (((W.setCell ⟨w.heap.size, 0, none⟩ (.bool (decide ((qsum qs n).num < 0)))).setCell ⟨w.heap.size, 1, none⟩ (.slice A3 n3 c3)).setCell ⟨w.heap.size, 2, none⟩ (.slice A4 n4 c4)) [mark D] [D] := ((Marks.nil w.heap.size W).more (D := D) (by simp) (by have := hB1.size; omega) hd).others (((KeepsOthers.setCell _ _ _).trans (KeepsOthers.setCell _ _ _)).trans (KeepsOthers.setCell _ _ _))
    have hrow : ∀ (W' : World) (i : Nat) (v u : Value), W'.cell? ⟨w.heap.size, i, none⟩ = some u → noLimb u = true → KeepU W' (W'.setCell ⟨w.heap.size, i, none⟩ v) := fun W' i v u hu hn p x hp => (World.cell?_setCell_other _ _ _ _ (fun e => by rw [← e] at hp; rw [hu] at hp; cases hp; cases hn)).trans hp
    have hk3 : KeepU W (((W.setCell ⟨w.heap.size, 0, none⟩ (.bool (decide ((qsum qs n).num < 0)))).setCell ⟨w.heap.size, 1, none⟩ (.slice A3 n3 c3)).setCell ⟨w.heap.size, 2, none⟩ (.slice A4 n4 c4)) := ((hrow _ _ _ _ q0 rfl).trans (hrow _ _ _ _ ((h3.set 0 _).cell 1) rfl)).trans (hrow _ _ _ _ (((h3.set 0 _).set 1 _).cell 2) rfl)
    have hq3 := hq.keepU hk3
    have hb3 : Below w.heap.size w (((W.setCell ⟨w.heap.size, 0, none⟩ (.bool (decide ((qsum qs n).num < 0)))).setCell ⟨w.heap.size, 1, none⟩ (.slice A3 n3 c3)).setCell ⟨w.heap.size, 2, none⟩ (.slice A4 n4 c4)) := ((h4.setCell (Nat.le_refl _) _).setCell (Nat.le_refl _) _).setCell (Nat.le_refl _) _
    generalize ((W.setCell ⟨w.heap.size, 0, none⟩ (.bool (decide ((qsum qs n).num < 0)))).setCell ⟨w.heap.size, 1, none⟩ (.slice A3 n3 c3)).setCell ⟨w.heap.size, 2, none⟩ (.slice A4 n4 c4) = W9 at *
    refine leaves_marks _ (v := .agg #[.bool (decide ((qsum qs n).num < 0)), .slice A3 n3 c3, .slice A4 n4 c4]) (fun w' ho' => ?_) [D] _ _ hM2 (Oth.refl _ _) ?_
    · have h7 := hb5.oth ho'
      have := run_cell (P := Tryz.prog) (w := w') (t := 27) (k := 3) (by kernel_rfl) (vs := [.bool (decide ((qsum qs n).num < 0)), .slice A3 n3 c3, .slice A4 n4 c4]) rfl h7
      simp [results, Tryz.results33, asAddr, this]
    · intro w' ho
      exact ⟨_, rfl, hq3.keepU (fun p x hp => (ho.cell p).trans hp), below_oth hb3 ho (Nat.le_refl _)⟩

set_option maxRecDepth 100000 in
set_option maxHeartbeats 1000000 in
theorem rMul_any (m M : Nat) (A : Option Addr) (n c : Nat) (qs : List Rat) (w : World) (h : QRd m w A n qs) (hn : n ≤ c) (hc : c ≤ 9223372036854775807) (hm : m ≤ 1000) (hm0 : 0 < m) (hM : M + m + 1 ≤ 1000) (hp : ∀ k, k ≤ n → QB (qprod qs k) M) (hT : Tab w) :
    Calls Tryz.prog 34 #[.slice A n c] w (Ret w (fQN (qprod qs n)).toSF) := by
  refine calls_marks Tryz.func34 rfl ?_
  simp only [Tryz.ntmps34, List.size_toArray, List.length_cons, List.length_nil, Nat.reduceAdd, Nat.reduceSub, Array.replicate_succ, Array.replicate_zero, List.push_toArray, List.append_toArray, List.nil_append, List.cons_append]
  go_wp2_with (first | (go_at_call 28; refine (rof_v 1 (by decide)).mono ?_; rintro e w1 ⟨v1, rfl, hv1, hb1⟩; obtain ⟨A1, n1, c1, A2, n2, c2, rfl⟩ := qn_form hv1) | (go_at_call 71; refine (qall_any A n c _).mono ?_; rintro e w3 ⟨rfl, rfl⟩))
  have hv2 : QNp 1 (.agg #[.bool false, .slice A1 n1 c1, .slice A2 n2 c2]) w1 := hv1
  obtain ⟨W0, hW0⟩ : ∃ W0, (((w1.alloc (.cells #[.bool false, .slice A1 n1 c1, .slice A2 n2 c2] 59)).alloc (.cells #[.pointer (some ⟨w1.heap.size, 0, none⟩)] 53)).alloc (.cells #[.slice A n c] 44)) = W0 := ⟨_, rfl⟩
  have hsz : W0.heap.size = w1.heap.size + 3 := by rw [← hW0]; simp
  have hbw1 : Below w.heap.size w w1 := ((Below.refl _ w).alloc (Nat.le_refl _) _).trans (hb1.mono (by simp))
  have hsz1 : w.heap.size < w1.heap.size := Nat.lt_of_lt_of_le (by simp) hb1.size
  have hb01 : Below w1.heap.size w1 W0 := by rw [← hW0]; exact (((Below.refl _ w1).alloc (Nat.le_refl _) _).alloc (by simp) _).alloc (by simp; omega) _
  have hB1 : Below w.heap.size w W0 := hbw1.trans (hb01.mono hbw1.size)
  have x0 : NumQ W0 w1.heap.size 1 := ⟨[_, _, _], (by rw [← hW0]; exact ((BoxN.new w1 _ #[.bool false, .slice A1 n1 c1, .slice A2 n2 c2]).alloc _).alloc _), hv2.keepU (keepU_below hb01)⟩
  have x1 : Boxed W0 (w1.heap.size + 1) 53 (.pointer (some ⟨w1.heap.size, 0, none⟩)) := by rw [← hW0]; exact (boxed_at _ _ _ (by simp)).alloc _
  have x2 : Boxed W0 (w1.heap.size + 1 + 1) 44 (.slice A n c) := by rw [← hW0]; exact boxed_at _ _ _ (by simp)
  have x3 : BoxN W0 w.heap.size 27 #[.bool false, .slice none 0 0, .slice none 0 0] := (BoxN.kept (BoxN.kept (BoxN.new w _ _) hb1) hb01)
  rw [hW0]
  clear hW0
  have hSb : ∀ b, (b < w.heap.size ∨ b = w1.heap.size + 1 + 1) → b < W0.heap.size := fun b hb => by have := hbw1.size; omega
  refine wp_rangeE (gf := 101) rfl (enters_of Tryz.func101 (by kernel_rfl) rfl) (qall1_iter m hm A n c qs (w1.heap.size + 1 + 1) w W0 h hT hB1 hn hc x2.cell (S := fun b => b < w.heap.size ∨ b = w1.heap.size + 1 + 1) hSb (.inr rfl) (fun b hb => .inl hb)) ?hE ?hps KeepZ.trans (keepZ_b hSb)
    (SaddQ w w1.heap.size (w1.heap.size + 1) (qprod qs)) (saddQ_own w _ _ _ hB1.size) (abide_mk (saddQ_own w _ _ _ (Nat.le_refl _))) Mk.keeps (fun _ _ _ _ _ _ _ _ => trivial) ⟨x0, x1, x3, hB1, by omega, hsz1⟩
    (fun xs => { tmps := #[.slice A n c, undef, .pointer (some ⟨w.heap.size, 0, none⟩), .pointer (some ⟨w1.heap.size + 1, 0, none⟩), xs.getD 0 undef, .agg #[.bool false, .slice A1 n1 c1, .slice A2 n2 c2], .agg #[.bool false, .slice A1 n1 c1, .slice A2 n2 c2], .pointer (some ⟨w1.heap.size, 0, none⟩), .slice A n c, .func (.func 101) #[] #[.pointer (some ⟨w1.heap.size + 1 + 1, 0, none⟩)], xs.getD 0 undef, undef, undef, undef, undef, undef, undef, undef], defers := [] }) ?assign ?body ?done
  case hE =>
    rintro k xs W l o o' ⟨B, rfl, h1, h2⟩ ho hc
    exact ⟨B, rfl, h1, h2.abide (C := 0) (grownBy_putObj' W l o') (fun r e => by cases e; exact ⟨Nat.zero_le _, o, ho, hc⟩)⟩
  case hps =>
    rintro k xs W ⟨B, rfl, _⟩
    rfl
  case assign =>
    rintro lp k xs W K ⟨B, rfl, h1, h2⟩ hK
    gi_wp2
    exact hK
  case body =>
    rintro lp k xs W hk ⟨h1, h2, h3, h4, h5, h6⟩ ⟨B, rfl, hB, hnb⟩
    have hc2 := h2.cell
    have hne : B ≠ w1.heap.size := by omega
    have hbd := hp k (Nat.le_of_lt hk)
    have hbd2 : QB (qAt qs k) m := by
      obtain ⟨_, _, _, _, _, q, _, _, _, _, e, hr⟩ := h.cells k hk
      rw [show qAt qs k = q from by simp [qAt, e]]
      exact hr.qb hm0
    have hTW : Tab W := hT.below h4
    gi_wp2_with (gi_at_call 73; refine CallsIn.mono (callsIn_wide.2 (by
      obtain ⟨cs, g1, g2⟩ := h1
      obtain ⟨cs', g1', g2'⟩ := hnb
      exact nummul_r g1 g2 g1' g2' hne hbd hbd2 (by omega) hTW)) ?_; rintro e w3 ⟨u, rfl, _, hg3, cs3, hh3, hc3, _⟩)
    refine ⟨(KeepsOthers.of_grownBy hg3 (fun j o e ho => by cases e; obtain ⟨cs, g1, _⟩ := h1; rw [g1] at ho; cases ho; rfl)).from _, ⟨(KeepS.refl _ _).grown hg3 (fun b hb => ⟨by have := h4.size; rcases hb with hb | hb <;> omega, fun e => by have := Option.some.inj e; omega⟩), hg3.size⟩, ⟨cs3, hh3, hc3⟩, h2.kept hg3 (fun e => by have := Option.some.inj e; omega), (hg3.block _ h3.lt (fun e => by have := Option.some.inj e; omega)).trans h3, below_grown h4 hg3 h4.size (by omega), Nat.le_trans h5 hg3.size, h6⟩
  case done =>
    rintro D W hD ⟨h1, h2, h3, h4, h5, h6⟩ _ hd
    obtain ⟨cs, hh, hq⟩ := h1
    obtain ⟨A3, n3, c3, A4, n4, c4, ecs⟩ := qn_form hq
    have ecs := congrArg Array.toList (agg_inj ecs)
    simp at ecs
    subst ecs
    obtain ⟨g0, g1, g2⟩ : W.cell? ⟨w1.heap.size, 0, none⟩ = some (.bool (decide ((qprod qs n).num < 0))) ∧ W.cell? ⟨w1.heap.size, 0 + 1, none⟩ = some (.slice A3 n3 c3) ∧ W.cell? ⟨w1.heap.size, 0 + 2, none⟩ = some (.slice A4 n4 c4) := ⟨mem_block hh 0 _ rfl, mem_block hh 1 _ rfl, mem_block hh 2 _ rfl⟩
    simp only [Nat.zero_add] at g1 g2
    have hc2 := h2.cell
    have q0 : W.cell? ⟨w.heap.size, 0, none⟩ = some (.bool false) := h3.cell 0
    have q1 : W.cell? ⟨w.heap.size, 1, none⟩ = some (.slice none 0 0) := h3.cell 1
    have q2 : W.cell? ⟨w.heap.size, 2, none⟩ = some (.slice none 0 0) := h3.cell 2
    have q3 := h3.frozen 0; have q4 := h3.frozen 1; have q5 := h3.frozen 2
    go_wp2
    have hb5 : BoxN (((W.setCell ⟨w.heap.size, 0, none⟩ (.bool (decide ((qprod qs n).num < 0)))).setCell ⟨w.heap.size, 1, none⟩ (.slice A3 n3 c3)).setCell ⟨w.heap.size, 2, none⟩ (.slice A4 n4 c4)) w.heap.size 27 #[.bool (decide ((qprod qs n).num < 0)), .slice A3 n3 c3, .slice A4 n4 c4] := ((h3.set 0 _).set 1 _).set 2 _
    have hM2 : Marks w.heap.size (((W.setCell ⟨w.heap.size, 0, none⟩ (.bool (decide ((qprod qs n).num < 0)))).setCell ⟨w.heap.size, 1, none⟩ (.slice A3 n3 c3)).setCell ⟨w.heap.size, 2, none⟩ (.slice A4 n4 c4)) [mark D] [D] := ((Marks.nil w.heap.size W).more (D := D) (by simp) (by have := hB1.size; omega) hd).others (((KeepsOthers.setCell _ _ _).trans (KeepsOthers.setCell _ _ _)).trans (KeepsOthers.setCell _ _ _))
    have hrow : ∀ (W' : World) (i : Nat) (v u : Value), W'.cell? ⟨w.heap.size, i, none⟩ = some u → noLimb u = true → KeepU W' (W'.setCell ⟨w.heap.size, i, none⟩ v) := fun W' i v u hu hn p x hp => (World.cell?_setCell_other _ _ _ _ (fun e => by rw [← e] at hp; rw [hu] at hp; cases hp; cases hn)).trans hp
    have hk3 : KeepU W (((W.setCell ⟨w.heap.size, 0, none⟩ (.bool (decide ((qprod qs n).num < 0)))).setCell ⟨w.heap.size, 1, none⟩ (.slice A3 n3 c3)).setCell ⟨w.heap.size, 2, none⟩ (.slice A4 n4 c4)) := ((hrow _ _ _ _ q0 rfl).trans (hrow _ _ _ _ ((h3.set 0 _).cell 1) rfl)).trans (hrow _ _ _ _ (((h3.set 0 _).set 1 _).cell 2) rfl)
    have hq3 := hq.keepU hk3
    have hb3 : Below w.heap.size w (((W.setCell ⟨w.heap.size, 0, none⟩ (.bool (decide ((qprod qs n).num < 0)))).setCell ⟨w.heap.size, 1, none⟩ (.slice A3 n3 c3)).setCell ⟨w.heap.size, 2, none⟩ (.slice A4 n4 c4)) := ((h4.setCell (Nat.le_refl _) _).setCell (Nat.le_refl _) _).setCell (Nat.le_refl _) _
    generalize ((W.setCell ⟨w.heap.size, 0, none⟩ (.bool (decide ((qprod qs n).num < 0)))).setCell ⟨w.heap.size, 1, none⟩ (.slice A3 n3 c3)).setCell ⟨w.heap.size, 2, none⟩ (.slice A4 n4 c4) = W9 at *
    refine leaves_marks _ (v := .agg #[.bool (decide ((qprod qs n).num < 0)), .slice A3 n3 c3, .slice A4 n4 c4]) (fun w' ho' => ?_) [D] _ _ hM2 (Oth.refl _ _) ?_
    · have h7 := hb5.oth ho'
      have := run_cell (P := Tryz.prog) (w := w') (t := 27) (k := 3) (by kernel_rfl) (vs := [.bool (decide ((qprod qs n).num < 0)), .slice A3 n3 c3, .slice A4 n4 c4]) rfl h7
      simp [results, Tryz.results34, asAddr, this]
    · intro w' ho
      exact ⟨_, rfl, hq3.keepU (fun p x hp => (ho.cell p).trans hp), below_oth hb3 ho (Nat.le_refl _)⟩

def fQS (m : Nat) (qs : List Rat) : SF := ⟨fun v W => ∃ A c, v = .slice A qs.length c ∧ qs.length ≤ c ∧ c ≤ 9223372036854775807 ∧ QRd m W A qs.length qs, fun _ _ _ ⟨A, c, h1, h2, h3, h4⟩ hb => ⟨A, c, h1, h2, h3, h4.below hb⟩⟩
theorem s_rat2 (s s' : Bool) (A A' D D' : Option Addr) (n n' c c' i i' j j' : Nat) : sliceCells Tryz.prog 44 2 [(0, .agg #[.bool s, .slice A n c, .slice D i j]), (1, .agg #[.bool s', .slice A' n' c', .slice D' i' j'])] = some (27, #[.bool s, .slice A n c, .slice D i j, .bool s', .slice A' n' c', .slice D' i' j']) := by kernel_rfl
theorem sl_rat2 {u v : Value} {W : World} {m : Nat} {p q : Rat} (hu : RVp m p u W) (hv : RVp m q v W) : ∃ e cs, sliceCells Tryz.prog 44 2 [(0, u), (1, v)] = some (e, cs) ∧ (fQS m [p, q]).p (.slice (some ⟨W.heap.size, 0, none⟩) 2 2) (W.alloc (.cells cs e)) := by
  obtain ⟨k, d, h1, h2⟩ := id hu
  obtain ⟨k', d', h1', h2'⟩ := id hv
  obtain ⟨s, A, n, c, D, i, j, rfl⟩ := qv_form h1
  obtain ⟨s', A', n', c', D', i', j', rfl⟩ := qv_form h1'
  refine ⟨_, _, s_rat2 s s' A A' D D' n n' c c' i i' j j', some ⟨W.heap.size, 0, none⟩, 2, rfl, Nat.le_refl _, by decide, rfl, fun x hx => ?_⟩
  have hb := alloc_b W (.cells #[.bool s, .slice A n c, .slice D i j, .bool s', .slice A' n' c', .slice D' i' j'] 27)
  rcases (by simp at hx; omega : x = 0 ∨ x = 1) with rfl | rfl
  · exact ⟨_, 0, _, _, _, p, rfl, mem_new W _ _ 0 _ rfl, mem_new W _ _ 1 _ rfl, mem_new W _ _ 2 _ rfl, rfl, hu.below hb⟩
  · exact ⟨_, 0, _, _, _, q, rfl, mem_new W _ _ 3 _ rfl, mem_new W _ _ 4 _ rfl, mem_new W _ _ 5 _ rfl, rfl, hv.below hb⟩
theorem radd_w {W : World} {m : Nat} {v : Value} {qs : List Rat} (M : Nat) (h : (fQS m qs).p v W) (hm0 : 0 < m) (hM : M + m + 1 ≤ 1000) (hp : ∀ k, k ≤ qs.length → QB (qsum qs k) M) (hT : Tab W) : Calls Tryz.prog 33 #[v] W (Ret W (fQN (qsum qs qs.length)).toSF) := by
  obtain ⟨A, c, rfl, h1, h2, h3⟩ := h
  exact rAdd_any m M A qs.length c qs W h3 h1 h2 (by omega) hm0 hM hp hT
theorem rmulq_w {W : World} {m : Nat} {v : Value} {qs : List Rat} (M : Nat) (h : (fQS m qs).p v W) (hm0 : 0 < m) (hM : M + m + 1 ≤ 1000) (hp : ∀ k, k ≤ qs.length → QB (qprod qs k) M) (hT : Tab W) : Calls Tryz.prog 34 #[v] W (Ret W (fQN (qprod qs qs.length)).toSF) := by
  obtain ⟨A, c, rfl, h1, h2, h3⟩ := h
  exact rMul_any m M A qs.length c qs W h3 h1 h2 (by omega) hm0 hM hp hT
theorem QB.zero {m : Nat} (hm : 0 < m) : QB 0 m := ⟨Nat.pow_pos BB_pos, one_lt_BB hm⟩
theorem QB.one {m : Nat} (hm : 0 < m) : QB 1 m := ⟨one_lt_BB hm, one_lt_BB hm⟩
theorem qsum2 (p q : Rat) : qsum [p, q] 2 = p + q := by
  show (0 + p) + q = _
  rw [Rat.zero_add]
theorem radd2_w {W : World} {m : Nat} {v : Value} {p q : Rat} (h : (fQS m [p, q]).p v W) (hp : QB p m) (hq : QB q m) (hm : 3 * m + 2 ≤ 1000) (hT : Tab W) : Calls Tryz.prog 33 #[v] W (Ret W (fQN (p + q)).toSF) := by
  have := radd_w (m + m + 1) h hp.pos (by omega) (fun k hk => by
    rcases (by simp at hk; omega : k = 0 ∨ k = 1 ∨ k = 2) with rfl | rfl | rfl
    · exact QB.zero (by omega)
    · show QB (0 + p) _
      rw [Rat.zero_add]
      exact hp.mono (by omega)
    · rw [qsum2]
      exact hp.add hq) hT
  rw [show ([p, q] : List Rat).length = 2 from rfl, qsum2] at this
  exact this
end Go.Proofs.Wd


namespace Go.Proofs.Wd
open Go.RowKit Lb

theorem up1_v {W : World} {m : Nat} {v : Value} {x : Nat} (h : LV W m v x) (hm : m ≤ 100000) : Calls Tryz.prog 46 #[v, .int .i64 1] W (RetN W (x * 2)) := by
  obtain ⟨A, n, c, l, rfl, h1, h2, h3, rfl⟩ := h
  refine (up_any A n c l 1 W h1 h2 (by omega) (by omega)).mono fun e w' hh => ?_
  obtain ⟨A1, n1, c1, l1, rfl, g1, g2, g3⟩ := hh
  rw [Nat.pow_one] at g1
  exact ⟨_, rfl, ⟨A1, n1, c1, l1, rfl, g1, Own32.rd g2⟩, g3⟩
theorem qdiv_v {W : World} {m : Nat} {v v' : Value} {a b : Nat} (h : LV W m v a) (h' : LV W m v' b) (hm : m ≤ 1000) (h0 : 0 < b) : Calls Tryz.prog 76 #[v, v'] W (Ret W (fTup3 (fNat (a / b)) (fNat (a % b)) (fI 0)).toSF) := by
  obtain ⟨A, n, c, l, rfl, h1, h2, h3, h4⟩ := h
  obtain ⟨A', n', c', l', rfl, h1', h2', h3', h4'⟩ := h'
  refine (qdiv_all a b h0 A n c l A' n' c' l' W h1 h2 h1' h2' h4 h4' (by omega) (by omega)).mono ?_
  rintro e w4 ⟨A4, n4, c4, l4, A5, n5, c5, l5, rfl, hi4, hr4, hi5, hr5, hb5⟩
  exact ⟨_, rfl, ⟨_, _, _, rfl, ⟨A4, n4, c4, l4, rfl, hi4, hr4⟩, ⟨A5, n5, c5, l5, rfl, hi5, hr5⟩, rfl⟩, hb5⟩

theorem rat_quo (p q : Rat) : mkRat ((p).num * (if decide ((q).num < 0) then -(((q).den : Nat) : Int) else (((q).den : Nat) : Int))) ((p).den * (q).num.natAbs) = p / q := by
  have hp : p = (p.num : Rat) / (p.den : Rat) := by
    have := Rat.mkRat_self p
    rw [Rat.mkRat_eq_div] at this
    exact this.symm
  have hq : q⁻¹ = mkRat (if decide (q.num < 0) then -((q.den : Nat) : Int) else ((q.den : Nat) : Int)) q.num.natAbs := by
    rw [Rat.inv_def]
    by_cases h : q.num < 0
    · rw [decide_eq_true h, if_pos rfl, ← Rat.divInt_ofNat, ← Rat.divInt_neg']
      congr 1
      omega
    · rw [decide_eq_false h, if_neg (by decide), ← Rat.divInt_ofNat]
      congr 1
      omega
  rw [Rat.div_def, hq]
  conv => rhs; rw [← Rat.mkRat_self p]
  rw [Rat.mkRat_mul_mkRat]
theorem floor_pos (q : Rat) (hs : decide (q.num < 0) = false) : (if false then -((((q).num.natAbs / (q).den) : Nat) : Int) else ((((q).num.natAbs / (q).den) : Nat) : Int)) = q.num / (q.den : Int) := by
  have h := of_decide_eq_false hs
  rw [if_neg (by decide), Int.natCast_ediv]
  congr 1
  omega
theorem floor_negE (q : Rat) (hs : decide (q.num < 0) = true) (hr : false = decide (0 < (q).num.natAbs % (q).den)) : (if true then -((((q).num.natAbs / (q).den) : Nat) : Int) else ((((q).num.natAbs / (q).den) : Nat) : Int)) = q.num / (q.den : Int) := by
  have h := of_decide_eq_true hs
  have hr := of_decide_eq_false hr.symm
  have hd := q.den_pos
  rw [if_pos rfl]
  have h1 := Nat.div_add_mod q.num.natAbs q.den
  have h2 : q.num = -((q.den : Int) * ((q.num.natAbs / q.den : Nat) : Int)) := by
    have h3 : (q.num.natAbs : Int) = (q.den : Int) * ((q.num.natAbs / q.den : Nat) : Int) := by rw [← Int.natCast_mul]; omega
    omega
  generalize q.num.natAbs / q.den = x at *
  rw [h2, ← Int.mul_neg, Int.mul_ediv_cancel_left _ (by omega)]
theorem floor_negL (q : Rat) (hs : decide (q.num < 0) = true) (hr : true = decide (0 < (q).num.natAbs % (q).den)) : (if true then -(((((q).num.natAbs / (q).den) + 1) : Nat) : Int) else (((((q).num.natAbs / (q).den) + 1) : Nat) : Int)) = q.num / (q.den : Int) := by
  have h := of_decide_eq_true hs
  have hr := of_decide_eq_true hr.symm
  have hd := q.den_pos
  rw [if_pos rfl]
  have h1 := Nat.div_add_mod q.num.natAbs q.den
  have h4 := Nat.mod_lt q.num.natAbs hd
  have h2 : q.num = -((q.den : Int) * ((q.num.natAbs / q.den : Nat) : Int)) - ((q.num.natAbs % q.den : Nat) : Int) := by
    have h3 : (q.num.natAbs : Int) = (q.den : Int) * ((q.num.natAbs / q.den : Nat) : Int) + ((q.num.natAbs % q.den : Nat) : Int) := by rw [← Int.natCast_mul]; omega
    omega
  generalize q.num.natAbs / q.den = x at *
  generalize q.num.natAbs % q.den = y at *
  symm
  rw [Int.ediv_eq_iff_of_pos (by omega)]
  rw [h2]
  have h5 : (-((x + 1 : Nat) : Int)) * (q.den : Int) = -((q.den : Int) * x) - q.den := by rw [Int.natCast_add, Int.neg_mul, Int.add_mul, Int.mul_comm]; omega
  constructor
  · rw [h5]; omega
  · rw [h5]; omega
def fNS (m : Nat) (xs : List Nat) : SF := ⟨fun v W => LSV W m v xs, fun _ _ _ h hb => h.below hb⟩
theorem s_nat2 (A A' : Option Addr) (n n' c c' : Nat) : sliceCells Tryz.prog 114 2 [(0, .slice A n c), (1, .slice A' n' c')] = some (23, #[.slice A n c, .slice A' n' c']) := by kernel_rfl
theorem sl_nat2 {u v : Value} {W : World} {m x y : Nat} (hu : LV W m u x) (hv : LV W m v y) (hm : m ≤ 10000 := by omega) : ∃ e cs, sliceCells Tryz.prog 114 2 [(0, u), (1, v)] = some (e, cs) ∧ (fNS m [x, y]).p (.slice (some ⟨W.heap.size, 0, none⟩) 2 2) (W.alloc (.cells cs e)) := by
  obtain ⟨A, n, c, rfl⟩ := hu.form
  obtain ⟨A', n', c', rfl⟩ := hv.form
  exact ⟨_, _, s_nat2 _ _ _ _ _ _, LSV.two hu hv hm _⟩
theorem nadd2_v {W : World} {m x y : Nat} {v : Value} (h : (fNS m [x, y]).p v W) (_hm : m ≤ 10000) : Calls Tryz.prog 77 #[v] W (Ret W (fNat (x + y)).toSF) := by
  obtain ⟨A, c, ls, rfl, h1, h2, h3⟩ := h
  have := add_any A 2 c ls W h1 (by omega)
  rw [h3] at this
  simp only [List.sum_cons, List.sum_nil, Nat.add_zero] at this
  exact this.mono fun _ _ hh => RetNat.v hh

set_option maxRecDepth 100000 in
theorem rNew_z {W : World} {m : Nat} {v v' : Value} {k : Int} {d : Nat} (h : UV W m v k) (h' : LV W m v' d) (hm : m ≤ 1000) (hT : Tab W) (hz : decide (0 < d) = false) : Calls Tryz.prog 20 #[v, v'] W (Ret W (fTup2 (fQN (mkRat k d)) (fI 30)).toSF) := by
  refine run_st [(fUV m k).toSF, (fLV m d).toSF] Tryz.func20 rfl (by kernel_rfl) ⟨h, h', trivial⟩ fun a s => ?_
  refine wpIn_seq ?_
  refine region_go 0 [] hmix s (by kernel_rfl)
    obs_nil fun a w1 s => ?_
  refine t_box (CU.agg (fUV (m) (k))) rfl s (by kernel_rfl) (fun v W h => uv_box h) fun b2 a w s => ?_
  refine t_alloc (CU.len 3) (cs := [.bool false, .slice none 0 0, .slice none 0 0]) (by kernel_rfl) rfl s (by kernel_rfl) (fun W => rfl) rfl fun b4 a w s => ?_
  refine t_set (UF.eq (.int .i64 (0))) rfl s (by kernel_rfl) (fun _ _ h => h) fun a w s => ?_
  refine tail_end rfl ?_
  refine wpIn_seq ?_
  refine region_go 4 ((7, .s ((fUV (m) (k)).toSF)) :: (8, .s ((fLV (m) (d)).toSF)) :: (9, .s ((fQV (m) (k) (d)).toSF)) :: (10, .u (fQV (m) (k) (d))) :: []) hmix s (by kernel_rfl)
    (obs_cons (ok_ldW (f := fUV (m) (k)) 2 (by kernel_rfl) (hz := uv_len _ _)) <| obs_cons (ok_move) <| obs_cons (ok_build2 (fun u v W (hu : UV W m u k) (hv : LV W m v d) => b_ratV hu hv)) <| obs_cons (ok_build1 (fun u W (hu : QVp m k d u W) => b_numV hu)) <| obs_nil) fun a w2 s => ?_
  refine t_box (CU.agg (fQV (m) (k) (d))) rfl s (by kernel_rfl) (fun v W h => qv_box h) fun b11 a w s => ?_
  refine t_ren rfl s (by kernel_rfl) fun a w s => ?_
  refine tail_end rfl ?_
  refine wpIn_seq ?_
  refine wpIn_seq ?_
  refine region_go 1 ((12, .u (UF.eq (.pointer (some ⟨b11, 0, none⟩)))) :: []) hmix s (by kernel_rfl)
    (obs_cons (ok_move (fun _ _ _ h => h.1)) <| obs_nil) fun a w3 s => ?_
  refine t_callS1 (c := 6) (CU.agg (fQN (mkRat k d))) (fB false) rfl wide_wide en_57 s (by kernel_rfl) rfl rfl (fun _ _ h => h) (fun cs h1 h2 => ?_) fun a w s => ?_
  · exact (rnorm_any h1 h2 hm (hT.below s.gr.below)).mono fun e w' ⟨v, g1, g3, g2⟩ => ⟨v, g1, by rw [show v = _ from g3, hz]; rfl, g2⟩
  refine t_gd (UF.eq (.bool true)) rfl s (by kernel_rfl) (ok_not (false) (fun _ _ h => h) (fun _ => rfl)) (by kernel_rfl) fun a w s => ?_
  refine tail_end rfl ?_
  refine StS.cond s true (fun _ _ h => h) (fun e => ?_) (fun e => by cases e)
  refine wpIn_seq ?_
  replace s := s.drop [5]
  refine region_go 4 ((15, .s (SF.pb b11 (CU.agg (fQN (mkRat k d))).cf)) :: (16, .s (SF.ptr (CU.agg (fQN (mkRat k d))).cf)) :: (17, .s (SF.ptr ((CU.agg (fQN (mkRat k d))).cf.at 0))) :: (18, .u (fQN (mkRat k d))) :: []) hmix s (by kernel_rfl)
    (obs_cons (ok_move) <| obs_cons (ok_nil (C := (CU.agg (fQN (mkRat k d))).cf)) <| obs_cons (ok_fld (C := (CU.agg (fQN (mkRat k d))).cf) 0 (by kernel_rfl)) <| obs_cons (ok_ldA (C := (CU.agg (fQN (mkRat k d))).cf) (k := 0) 3 (by kernel_rfl) (h := qn_whole)) <| obs_nil) fun a w4 s => ?_
  refine t_store (CU.agg (fQN (mkRat k d))) ((fQN (mkRat k d)).toSF) rfl s (by kernel_rfl) rfl rfl rfl (fun _ _ h => h) (fun _ _ h => h) (qn_store) fun a w s => ?_
  refine t_set (UF.eq (.int .i64 (30))) rfl s (by kernel_rfl) (fun _ _ h => h) fun a w s => ?_
  refine tail_end rfl ?_
  refine wpIn_ret ?_
  exact StS.resCT s (CU.agg (fQN (mkRat k d))) rfl (by kernel_rfl) rfl rfl (qn_len _) (fun cs v W h1 h2 => ⟨_, _, rfl, h1, h2⟩)

set_option maxRecDepth 100000 in
theorem rNew_p {W : World} {m : Nat} {v v' : Value} {k : Int} {d : Nat} (h : UV W m v k) (h' : LV W m v' d) (hm : m ≤ 1000) (hT : Tab W) (hz : decide (0 < d) = true) : Calls Tryz.prog 20 #[v, v'] W (Ret W (fTup2 (fQN (mkRat k d)) (fI 0)).toSF) := by
  refine run_st [(fUV m k).toSF, (fLV m d).toSF] Tryz.func20 rfl (by kernel_rfl) ⟨h, h', trivial⟩ fun a s => ?_
  refine wpIn_seq ?_
  refine region_go 0 [] hmix s (by kernel_rfl)
    obs_nil fun a w1 s => ?_
  refine t_box (CU.agg (fUV (m) (k))) rfl s (by kernel_rfl) (fun v W h => uv_box h) fun b2 a w s => ?_
  refine t_alloc (CU.len 3) (cs := [.bool false, .slice none 0 0, .slice none 0 0]) (by kernel_rfl) rfl s (by kernel_rfl) (fun W => rfl) rfl fun b4 a w s => ?_
  refine t_set (UF.eq (.int .i64 (0))) rfl s (by kernel_rfl) (fun _ _ h => h) fun a w s => ?_
  refine tail_end rfl ?_
  refine wpIn_seq ?_
  refine region_go 4 ((7, .s ((fUV (m) (k)).toSF)) :: (8, .s ((fLV (m) (d)).toSF)) :: (9, .s ((fQV (m) (k) (d)).toSF)) :: (10, .u (fQV (m) (k) (d))) :: []) hmix s (by kernel_rfl)
    (obs_cons (ok_ldW (f := fUV (m) (k)) 2 (by kernel_rfl) (hz := uv_len _ _)) <| obs_cons (ok_move) <| obs_cons (ok_build2 (fun u v W (hu : UV W m u k) (hv : LV W m v d) => b_ratV hu hv)) <| obs_cons (ok_build1 (fun u W (hu : QVp m k d u W) => b_numV hu)) <| obs_nil) fun a w2 s => ?_
  refine t_box (CU.agg (fQV (m) (k) (d))) rfl s (by kernel_rfl) (fun v W h => qv_box h) fun b11 a w s => ?_
  refine t_ren rfl s (by kernel_rfl) fun a w s => ?_
  refine tail_end rfl ?_
  refine wpIn_seq ?_
  refine wpIn_seq ?_
  refine region_go 1 ((12, .u (UF.eq (.pointer (some ⟨b11, 0, none⟩)))) :: []) hmix s (by kernel_rfl)
    (obs_cons (ok_move (fun _ _ _ h => h.1)) <| obs_nil) fun a w3 s => ?_
  refine t_callS1 (c := 6) (CU.agg (fQN (mkRat k d))) (fB true) rfl wide_wide en_57 s (by kernel_rfl) rfl rfl (fun _ _ h => h) (fun cs h1 h2 => ?_) fun a w s => ?_
  · exact (rnorm_any h1 h2 hm (hT.below s.gr.below)).mono fun e w' ⟨v, g1, g3, g2⟩ => ⟨v, g1, by rw [show v = _ from g3, hz]; rfl, g2⟩
  refine t_gd (UF.eq (.bool false)) rfl s (by kernel_rfl) (ok_not (true) (fun _ _ h => h) (fun _ => rfl)) (by kernel_rfl) fun a w s => ?_
  refine tail_end rfl ?_
  refine StS.cond s false (fun _ _ h => h) (fun e => by cases e) (fun e => ?_)
  refine wpIn_skip ?_
  refine wpIn_seq ?_
  replace s := s.drop [5]
  refine region_go 4 ((19, .s (SF.pb b11 (CU.agg (fQN (mkRat k d))).cf)) :: (20, .s (SF.ptr (CU.agg (fQN (mkRat k d))).cf)) :: (21, .s (SF.ptr ((CU.agg (fQN (mkRat k d))).cf.at 0))) :: (22, .u (fQN (mkRat k d))) :: []) hmix s (by kernel_rfl)
    (obs_cons (ok_move) <| obs_cons (ok_nil (C := (CU.agg (fQN (mkRat k d))).cf)) <| obs_cons (ok_fld (C := (CU.agg (fQN (mkRat k d))).cf) 0 (by kernel_rfl)) <| obs_cons (ok_ldA (C := (CU.agg (fQN (mkRat k d))).cf) (k := 0) 3 (by kernel_rfl) (h := qn_whole)) <| obs_nil) fun a w4 s => ?_
  refine t_store (CU.agg (fQN (mkRat k d))) ((fQN (mkRat k d)).toSF) rfl s (by kernel_rfl) rfl rfl rfl (fun _ _ h => h) (fun _ _ h => h) (qn_store) fun a w s => ?_
  refine t_set (UF.eq (.int .i64 (0))) rfl s (by kernel_rfl) (fun _ _ h => h) fun a w s => ?_
  refine tail_end rfl ?_
  refine wpIn_ret ?_
  exact StS.resCT s (CU.agg (fQN (mkRat k d))) rfl (by kernel_rfl) rfl rfl (qn_len _) (fun cs v W h1 h2 => ⟨_, _, rfl, h1, h2⟩)

theorem rNew_v {W : World} {m : Nat} {v v' : Value} {k : Int} {d : Nat} (h : UV W m v k) (h' : LV W m v' d) (hm : m ≤ 1000) (hT : Tab W) : Calls Tryz.prog 20 #[v, v'] W (Ret W (fTup2 (fQN (mkRat k d)) (fI (if d = 0 then 30 else 0))).toSF) := by
  by_cases hd : d = 0
  · rw [if_pos hd]
    exact rNew_z h h' hm hT (decide_eq_false (by omega))
  · rw [if_neg hd]
    exact rNew_p h h' hm hT (decide_eq_true (by omega))

set_option maxRecDepth 100000 in
theorem rSub_q {W : World} {m : Nat} {v v' : Value} {q q' : Rat} (h : RVp m q v W) (h' : RVp m q' v' W) (hm : m ≤ 300) (hm0 : 0 < m) (hT : Tab W) : Calls Tryz.prog 36 #[v, v'] W (Ret W (fQN (q - q')).toSF) := by
  have hq : QB q m := h.qb hm0
  have hq' : QB q' m := h'.qb hm0
  refine run_st [(fRV m q).toSF, (fRV m q').toSF] Tryz.func36 rfl (by kernel_rfl) ⟨h, h', trivial⟩ fun a s => ?_
  refine wpIn_seq ?_
  refine region_go 0 [] hmix s (by kernel_rfl)
    obs_nil fun a w1 s => ?_
  refine t_box (CU.agg (fRV (m) (q))) rfl s (by kernel_rfl) (fun v W h => rv_box h) fun b2 a w s => ?_
  refine t_box (CU.agg (fRV (m) (q'))) rfl s (by kernel_rfl) (fun v W h => rv_box h) fun b3 a w s => ?_
  refine t_alloc (CU.len 3) (cs := [.bool false, .slice none 0 0, .slice none 0 0]) (by kernel_rfl) rfl s (by kernel_rfl) (fun W => rfl) rfl fun b4 a w s => ?_
  refine tail_end rfl ?_
  refine wpIn_seq ?_
  refine region_goP [] 5 ((5, .s ((fRV (m) (q)).toSF)) :: (6, .s ((fRV (m) (q')).toSF)) :: (7, .s ((fQN ((-q'))).toSF)) :: (8, .s (fQS m [q, (-q')])) :: (9, .u (fQN ((q + -q')))) :: []) hmix s (by kernel_rfl)
    (obs_cons (ok_ldW (f := fRV (m) (q)) 3 (by kernel_rfl) (hz := rv_len _ _)) <| obs_cons (ok_ldW (f := fRV (m) (q')) 3 (by kernel_rfl) (hz := rv_len _ _)) <| obs_cons (ok_call1 wide_wide en_31 (fun u0 W hb (h0 : RVp (m) (q') u0 W) => rNeg_q h0 (by omega) hm0 (hT.below (s.up hb)))) <| obs_cons (ok_slice2 (fun u v W (hu : RVp (m) (q) u W) (hv : QNp ((-q')) v W) => sl_rat2 hu (QNp.rv hv hq'.neg))) <| obs_cons (ok_call1 wide_wide en_33 (fun u0 W hb (h0 : (fQS m [q, (-q')]).p u0 W) => radd2_w h0 hq hq'.neg (by omega) (hT.below (s.up hb)))) <| obs_nil) fun Q' hQ a w2 s => ?_
  refine t_store (CU.agg (fQN ((q + -q')))) ((fQN ((q + -q'))).toSF) rfl s (by kernel_rfl) rfl rfl rfl (fun _ _ h => h) (fun _ _ h => h) (qn_store) fun a w s => ?_
  refine tail_end rfl (hQ _ _ ?_)
  refine wpIn_ret ?_
  exact StS.resC s (CU.agg (fQN (q + -q'))) rfl (by kernel_rfl) rfl rfl (qn_len _) (fun cs W h => by rw [Rat.sub_eq_add_neg]; exact h)

set_option maxRecDepth 100000 in
theorem rMid_q {W : World} {m : Nat} {v v' : Value} {q q' : Rat} (h : RVp m q v W) (h' : RVp m q' v' W) (hm : m ≤ 300) (hm0 : 0 < m) (hT : Tab W) : Calls Tryz.prog 37 #[v, v'] W (Ret W (fQN ((q + q') / 2)).toSF) := by
  have hq : QB q m := h.qb hm0
  have hq' : QB q' m := h'.qb hm0
  have hbuild : ∀ u v W, NV W u (q + q').num → NatV W v ((q + q').den * 2) → ∃ cells, Tryz.prog.built 27 [(0, u), (1, v)] = some cells ∧ RVp (m + m + 2) ((q + q') / 2) (.agg cells) W := fun u v W hu hv => by
    have hs := hq.add hq'
    obtain ⟨cells, h1, h2⟩ := b_ratV (hu.uv' (hs.1.mono (by omega : m + m + 1 ≤ m + m + 2))) (hv.lv (m := m + m + 2) (by have := hs.2; rw [show m + m + 2 = (m + m + 1) + 1 from rfl, Nat.pow_succ]; exact Nat.mul_lt_mul_of_lt_of_le this (by unfold BB; omega) (by first | exact BB_pos | decide | (unfold BB; omega) | omega)))
    refine ⟨cells, h1, _, _, h2, ?_⟩
    rw [Rat.mkRat_eq_div, Rat.natCast_mul, Rat.div_def, Rat.inv_mul_rev, ← Rat.mul_assoc, Rat.mul_comm _ ((2 : Nat) : Rat)⁻¹, Rat.mul_assoc, ← Rat.div_def, ← Rat.mkRat_eq_div, Rat.mkRat_self, Rat.mul_comm, ← Rat.div_def]
    rfl
  refine run_st [(fRV m q).toSF, (fRV m q').toSF] Tryz.func37 rfl (by kernel_rfl) ⟨h, h', trivial⟩ fun a s => ?_
  refine wpIn_seq ?_
  refine region_go 0 [] hmix s (by kernel_rfl)
    obs_nil fun a w1 s => ?_
  refine t_box (CU.agg (fRV (m) (q))) rfl s (by kernel_rfl) (fun v W h => rv_box h) fun b2 a w s => ?_
  refine t_box (CU.agg (fRV (m) (q'))) rfl s (by kernel_rfl) (fun v W h => rv_box h) fun b3 a w s => ?_
  refine t_alloc (CU.len 3) (cs := [.bool false, .slice none 0 0, .slice none 0 0]) (by kernel_rfl) rfl s (by kernel_rfl) (fun W => rfl) rfl fun b4 a w s => ?_
  refine tail_end rfl ?_
  refine wpIn_seq ?_
  refine region_go 4 ((6, .s ((fRV (m) (q)).toSF)) :: (7, .s ((fRV (m) (q')).toSF)) :: (8, .s (fQS m [q, q'])) :: (9, .u (fQN ((q + q')))) :: []) hmix s (by kernel_rfl)
    (obs_cons (ok_ldW (f := fRV (m) (q)) 3 (by kernel_rfl) (hz := rv_len _ _)) <| obs_cons (ok_ldW (f := fRV (m) (q')) 3 (by kernel_rfl) (hz := rv_len _ _)) <| obs_cons (ok_slice2 (fun u v W (hu : RVp (m) (q) u W) (hv : RVp (m) (q') v W) => sl_rat2 hu hv)) <| obs_cons (ok_call1 wide_wide en_33 (fun u0 W hb (h0 : (fQS m [q, q']).p u0 W) => radd2_w h0 hq hq' (by omega) (hT.below (s.up hb)))) <| obs_nil) fun a w2 s => ?_
  refine t_alloc (CU.len 3) (cs := [.bool false, .slice none 0 0, .slice none 0 0]) (by kernel_rfl) rfl s (by kernel_rfl) (fun W => rfl) rfl fun b5 a w s => ?_
  refine t_store (CU.agg (fQN ((q + q')))) ((fQN ((q + q'))).toSF) rfl s (by kernel_rfl) rfl rfl rfl (fun _ _ h => h) (fun _ _ h => h) (qn_store) fun a w s => ?_
  refine tail_end rfl ?_
  refine wpIn_seq ?_
  refine region_goP [] 7 ((10, .s (SF.ptr ((CU.agg (fQN ((q + q')))).cf.at 0))) :: (11, .s ((fNV (((q + q')).num)).toSF)) :: (12, .s (SF.ptr ((CU.agg (fQN ((q + q')))).cf.at 2))) :: (13, .s ((fNat (((q + q')).den)).toSF)) :: (14, .s ((fNat (((q + q')).den * 2)).toSF)) :: (15, .s ((fRV ((m + m + 2)) (((q + q') / 2))).toSF)) :: (16, .u (fQN (((q + q') / 2)))) :: []) hmix s (by kernel_rfl)
    (obs_cons (ok_fld (C := (CU.agg (fQN ((q + q')))).cf) 0 (by kernel_rfl)) <| obs_cons (ok_ldA (C := (CU.agg (fQN ((q + q')))).cf) (k := 0) 2 (by kernel_rfl) (h := qn_num)) <| obs_cons (ok_fld (C := (CU.agg (fQN ((q + q')))).cf) 2 (by kernel_rfl)) <| obs_cons (ok_ld (C := (CU.agg (fQN ((q + q')))).cf) (k := 2) (by kernel_rfl) (h := qn_den)) <| obs_cons (ok_call2 wide_wide en_46 (fun u0 u1 W hb (h0 : NatV W u0 (((q + q')).den)) (h1 : u1 = .int .i64 (1)) => by subst h1; exact up1_v (NatV.lv h0 (hq.add hq').2) (by omega))) <| obs_cons (ok_build2 (fun u v W (hu : NV W u ((q + q')).num) (hv : NatV W v (((q + q')).den * 2)) => hbuild u v W hu hv)) <| obs_cons (ok_call1 wide_wide en_29 (fun u0 W hb (h0 : RVp ((m + m + 2)) (((q + q') / 2)) u0 W) => rNorm_q h0 (by omega) (by omega) (hT.below (s.up hb)))) <| obs_nil) fun Q' hQ a w3 s => ?_
  refine t_store (CU.agg (fQN (((q + q') / 2)))) ((fQN (((q + q') / 2))).toSF) rfl s (by kernel_rfl) rfl rfl rfl (fun _ _ h => h) (fun _ _ h => h) (qn_store) fun a w s => ?_
  refine tail_end rfl (hQ _ _ ?_)
  refine wpIn_ret ?_
  exact StS.resC s (CU.agg (fQN ((q + q') / 2))) rfl (by kernel_rfl) rfl rfl (qn_len _) (fun cs W h => h)

set_option maxRecDepth 100000 in
theorem rQuo_q {W : World} {m : Nat} {v v' : Value} {q q' : Rat} (h : RVp m q v W) (h' : RVp m q' v' W) (hm : m ≤ 300) (hm0 : 0 < m) (hT : Tab W) : Calls Tryz.prog 22 #[v, v'] W (Ret W (fTup2 (fQN (q / q')) (fI (if q' = 0 then 30 else 0))).toSF) := by
  have hq : QB q m := h.qb hm0
  have hq' : QB q' m := h'.qb hm0
  have bk2 : Bd (if decide ((q').num < 0) then -(((q').den : Nat) : Int) else (((q').den : Nat) : Int)) m := by split; exact (bd_nat hq'.2).neg; exact bd_nat hq'.2
  have hval : mkRat ((q).num * (if decide ((q').num < 0) then -(((q').den : Nat) : Int) else (((q').den : Nat) : Int))) ((q).den * (q').num.natAbs) = q / q' := rat_quo q q'
  have herr : ((q).den * (q').num.natAbs = 0) = (q' = 0) := by rw [Nat.mul_eq_zero, Int.natAbs_eq_zero, Rat.num_eq_zero]; have := q.den_pos; simp; omega
  have hnew : ∀ W u0 u1, Tab W → NV W u0 ((q).num * (if decide ((q').num < 0) then -(((q').den : Nat) : Int) else (((q').den : Nat) : Int))) → NatV W u1 ((q).den * (q').num.natAbs) → Calls Tryz.prog 20 #[u0, u1] W (Ret W (fTup2 (fQN (q / q')) (fI (if q' = 0 then 30 else 0))).toSF) := fun W u0 u1 hT h0 h1 => by
    have := rNew_v (m := m + m) (h0.uv' (Bd.mul hq.1 bk2)) (h1.lv (pow_mul_lt hq.2 hq'.1)) (by omega) hT
    simp only [hval, herr] at this
    exact this
  refine run_st [(fRV m q).toSF, (fRV m q').toSF] Tryz.func22 rfl (by kernel_rfl) ⟨h, h', trivial⟩ fun a s => ?_
  refine wpIn_seq ?_
  refine region_go 0 [] hmix s (by kernel_rfl)
    obs_nil fun a w1 s => ?_
  refine t_box (CU.agg (fRV (m) (q))) rfl s (by kernel_rfl) (fun v W h => rv_box h) fun b2 a w s => ?_
  refine t_box (CU.agg (fRV (m) (q'))) rfl s (by kernel_rfl) (fun v W h => rv_box h) fun b3 a w s => ?_
  refine t_alloc (CU.len 3) (cs := [.bool false, .slice none 0 0, .slice none 0 0]) (by kernel_rfl) rfl s (by kernel_rfl) (fun W => rfl) rfl fun b4 a w s => ?_
  refine t_set (UF.eq (.int .i64 (0))) rfl s (by kernel_rfl) (fun _ _ h => h) fun a w s => ?_
  refine tail_end rfl ?_
  refine wpIn_seq ?_
  have so := s.old; have sg := s.gr
  refine region_goN 6 ((8, .s ((fRV (m) (q)).toSF)) :: (9, .s (SF.newBox w 59 (CU.agg (fQN (q))))) :: (10, .s ((fRV (m) (q')).toSF)) :: (11, .s (SF.newBox w 59 (CU.agg (fQN (q'))))) :: (6, .s (SF.newBox w 59 (CU.agg (fQN (q))))) :: (7, .s (SF.newBox w 59 (CU.agg (fQN (q'))))) :: []) hmix s (by kernel_rfl)
    (obs_cons (ok_ldW (f := fRV (m) (q)) 3 (by kernel_rfl) (hz := rv_len _ _)) <| obs_cons (ok_call1 wide_wide en_43 (fun u0 W hb (h0 : RVp (m) (q) u0 W) => (rof_q h0 (by omega) (hT.below (s.up hb))).mono (Ret.to (newBox_old hb.size)))) <| obs_cons (ok_ldW (f := fRV (m) (q')) 3 (by kernel_rfl) (hz := rv_len _ _)) <| obs_cons (ok_call1 wide_wide en_43 (fun u0 W hb (h0 : RVp (m) (q') u0 W) => (rof_q h0 (by omega) (hT.below (s.up hb))).mono (Ret.to (newBox_old hb.size)))) <| obs_cons (ok_assign) <| obs_cons (ok_assign) <| obs_nil) fun a w2 s hr => ?_
  obtain ⟨b6, _, s⟩ := s.adopt true 6 (hr (_, _) (.tail _ (.tail _ (.tail _ (.tail _ (.head _)))))) sg (fun y hy => .inl (so y hy))
  obtain ⟨b7, _, s⟩ := s.adopt true 7 (hr (_, _) (.tail _ (.tail _ (.tail _ (.tail _ (.tail _ (.head _))))))) sg (fun y hy => by rcases List.mem_cons.1 hy with rfl | hy; exact .inr ⟨rfl, rfl⟩; exact .inl (so y hy))
  refine tail_end rfl ?_
  refine wpIn_seq ?_
  replace s := s.drop [5]
  refine region_goP [0, 5, 11, 19, 24] 34 ((12, .s (SF.pb b6 (CU.agg (fQN (q))).cf)) :: (13, .s (SF.ptr (CU.agg (fQN (q))).cf)) :: (14, .s (SF.ptr ((CU.agg (fQN (q))).cf.at 0))) :: (15, .s (SF.ptr ((CU.agg (fQN (q))).cf.at 0))) :: (16, .s ((fNV ((q).num)).toSF)) :: (17, .s (SF.pb b7 (CU.agg (fQN (q'))).cf)) :: (18, .s (SF.ptr (CU.agg (fQN (q'))).cf)) :: (19, .s (SF.ptr ((CU.agg (fQN (q'))).cf.at 0))) :: (20, .s (SF.ptr ((CU.agg (fQN (q'))).cf.at 0))) :: (21, .s (SF.ptr ((CU.agg (fQN (q'))).cf.at 0))) :: (22, .s ((UF.eq (.bool (decide ((q').num < 0)))).toSF)) :: (23, .s (SF.pb b7 (CU.agg (fQN (q'))).cf)) :: (24, .s (SF.ptr (CU.agg (fQN (q'))).cf)) :: (25, .s (SF.ptr ((CU.agg (fQN (q'))).cf.at 0))) :: (26, .s (SF.ptr ((CU.agg (fQN (q'))).cf.at 2))) :: (27, .s ((fNat ((q').den)).toSF)) :: (28, .s ((fUV (m) ((if decide ((q').num < 0) then -(((q').den : Nat) : Int) else (((q').den : Nat) : Int)))).toSF)) :: (29, .s (fISV ((m + m)) [(q).num, (if decide ((q').num < 0) then -(((q').den : Nat) : Int) else (((q').den : Nat) : Int))])) :: (30, .s ((fNV (((q).num * (if decide ((q').num < 0) then -(((q').den : Nat) : Int) else (((q').den : Nat) : Int))))).toSF)) :: (31, .s (SF.pb b6 (CU.agg (fQN (q))).cf)) :: (32, .s (SF.ptr (CU.agg (fQN (q))).cf)) :: (33, .s (SF.ptr ((CU.agg (fQN (q))).cf.at 0))) :: (34, .s (SF.ptr ((CU.agg (fQN (q))).cf.at 2))) :: (35, .s ((fNat ((q).den)).toSF)) :: (36, .s (SF.pb b7 (CU.agg (fQN (q'))).cf)) :: (37, .s (SF.ptr (CU.agg (fQN (q'))).cf)) :: (38, .s (SF.ptr ((CU.agg (fQN (q'))).cf.at 0))) :: (39, .s (SF.ptr ((CU.agg (fQN (q'))).cf.at 0))) :: (40, .s (SF.ptr ((CU.agg (fQN (q'))).cf.at 1))) :: (41, .s ((fNat ((q').num.natAbs)).toSF)) :: (42, .s ((fNat ((q).den * (q').num.natAbs)).toSF)) :: (43, .s ((fTup2 (fQN ((q / q'))) (UF.eq (.int .i64 ((if q' = 0 then 30 else 0))))).toSF)) :: (44, .u (fQN ((q / q')))) :: (45, .u (UF.eq (.int .i64 ((if q' = 0 then 30 else 0))))) :: []) hmix s (by kernel_rfl)
    (obs_cons (ok_move) <| obs_cons (ok_nil (C := (CU.agg (fQN (q))).cf)) <| obs_cons (ok_fld (C := (CU.agg (fQN (q))).cf) 0 (by kernel_rfl)) <| obs_cons (ok_fldn (C := (CU.agg (fQN (q))).cf) 0 0 (by kernel_rfl)) <| obs_cons (ok_ldA (C := (CU.agg (fQN (q))).cf) (k := 0) 2 (by kernel_rfl) (h := qn_num)) <| obs_cons (ok_move) <| obs_cons (ok_nil (C := (CU.agg (fQN (q'))).cf)) <| obs_cons (ok_fld (C := (CU.agg (fQN (q'))).cf) 0 (by kernel_rfl)) <| obs_cons (ok_fldn (C := (CU.agg (fQN (q'))).cf) 0 0 (by kernel_rfl)) <| obs_cons (ok_fldn (C := (CU.agg (fQN (q'))).cf) 0 0 (by kernel_rfl)) <| obs_cons (ok_ld (C := (CU.agg (fQN (q'))).cf) (k := 0) (by kernel_rfl) (h := qn_neg)) <| obs_cons (ok_move) <| obs_cons (ok_nil (C := (CU.agg (fQN (q'))).cf)) <| obs_cons (ok_fld (C := (CU.agg (fQN (q'))).cf) 0 (by kernel_rfl)) <| obs_cons (ok_fldn (C := (CU.agg (fQN (q'))).cf) 0 2 (by kernel_rfl)) <| obs_cons (ok_ld (C := (CU.agg (fQN (q'))).cf) (k := 2) (by kernel_rfl) (h := qn_den)) <| obs_cons (ok_build2 (fun u v W (hu : u = .bool (decide ((q').num < 0))) (hv : NatV W v ((q').den)) => b_int hu hv hq'.2)) <| obs_cons (ok_slice2 (fun u v W (hu : NV W u ((q).num)) (hv : UV W (m) v ((if decide ((q').num < 0) then -(((q').den : Nat) : Int) else (((q').den : Nat) : Int)))) => sl_int2 (NV.uv' hu (Bd.mono (hq).1 (m' := (m + m)) (by first | omega | decide))) (UV.mono hv (m' := (m + m)) (by first | omega | decide)))) <| obs_cons (ok_call1 wide_wide en_63 (fun u0 W hb (h0 : ISV W ((m + m)) u0 [(q).num, (if decide ((q').num < 0) then -(((q').den : Nat) : Int) else (((q').den : Nat) : Int))]) => mul_w (k := ((q).num * (if decide ((q').num < 0) then -(((q').den : Nat) : Int) else (((q').den : Nat) : Int)))) h0 (by show (m + m) * 2 + (m + m) + 1 ≤ 40000; omega) (by simp) (by simp))) <| obs_cons (ok_move) <| obs_cons (ok_nil (C := (CU.agg (fQN (q))).cf)) <| obs_cons (ok_fld (C := (CU.agg (fQN (q))).cf) 0 (by kernel_rfl)) <| obs_cons (ok_fldn (C := (CU.agg (fQN (q))).cf) 0 2 (by kernel_rfl)) <| obs_cons (ok_ld (C := (CU.agg (fQN (q))).cf) (k := 2) (by kernel_rfl) (h := qn_den)) <| obs_cons (ok_move) <| obs_cons (ok_nil (C := (CU.agg (fQN (q'))).cf)) <| obs_cons (ok_fld (C := (CU.agg (fQN (q'))).cf) 0 (by kernel_rfl)) <| obs_cons (ok_fldn (C := (CU.agg (fQN (q'))).cf) 0 0 (by kernel_rfl)) <| obs_cons (ok_fldn (C := (CU.agg (fQN (q'))).cf) 0 1 (by kernel_rfl)) <| obs_cons (ok_ld (C := (CU.agg (fQN (q'))).cf) (k := 1) (by kernel_rfl) (h := qn_abs)) <| obs_cons (ok_call2 wide_wide en_64 (fun u0 u1 W hb (h0 : NatV W u0 ((q).den)) (h1 : NatV W u1 ((q').num.natAbs)) => mul_v (LV.mono (NatV.lv h0 hq.2) (m' := m) (by omega)) (NatV.lv h1 hq'.1) (by omega))) <| obs_cons (ok_call2 wide_wide en_20 (fun u0 u1 W hb (h0 : NV W u0 (((q).num * (if decide ((q').num < 0) then -(((q').den : Nat) : Int) else (((q').den : Nat) : Int))))) (h1 : NatV W u1 ((q).den * (q').num.natAbs)) => hnew W u0 u1 (hT.below (s.up hb)) h0 h1)) <| obs_cons (ok_ext20 (A := (fQN ((q / q'))).toSF) (B := (UF.eq (.int .i64 ((if q' = 0 then 30 else 0)))).toSF) (fun _ _ h => h)) <| obs_cons (ok_ext21 (A := (fQN ((q / q'))).toSF) (B := (UF.eq (.int .i64 ((if q' = 0 then 30 else 0)))).toSF) (fun _ _ h => h)) <| obs_nil) fun Q' hQ a w3 s => ?_
  refine t_store (CU.agg (fQN ((q / q')))) ((fQN ((q / q'))).toSF) rfl s (by kernel_rfl) rfl rfl rfl (fun _ _ h => h) (fun _ _ h => h) (qn_store) fun a w s => ?_
  refine t_set (UF.eq (.int .i64 ((if q' = 0 then 30 else 0)))) rfl s (by kernel_rfl) (fun _ _ h => h) fun a w s => ?_
  refine tail_end rfl (hQ _ _ ?_)
  refine wpIn_ret ?_
  exact StS.resCT s (CU.agg (fQN (q / q'))) rfl (by kernel_rfl) rfl rfl (qn_len _) (fun cs v W h1 h2 => ⟨_, _, rfl, h1, h2⟩)

set_option maxRecDepth 100000 in
theorem rFloor_a {W : World} {m : Nat} {v : Value} {q : Rat} (h : RVp m q v W) (hm : m ≤ 300) (hm0 : 0 < m) (hT : Tab W) (hs : decide (q.num < 0) = false) : Calls Tryz.prog 40 #[v] W (Ret W (fNV (q.num / (q.den : Int))).toSF) := by
  have hq : QB q m := h.qb hm0
  have hsg : ∀ cs W, (CU.agg (fQN q)).p cs W → ∃ u, cs[0]? = some u ∧ u = .bool false := fun cs W h => by rw [← hs]; exact qn_neg cs W h
  have hN : ((q).num.natAbs / (q).den) < BB ^ m := Nat.lt_of_le_of_lt (Nat.div_le_self _ _) hq.1
  have hNm : ((q).num.natAbs / (q).den) < BB ^ (m + 1) := Nat.lt_of_lt_of_le hN (Nat.pow_le_pow_right BB_pos (by omega))
  have hF : ((q).num.natAbs / (q).den) < BB ^ (m + 1) := hNm
  have hbi : ∀ u v W, u = .bool false → NatV W v ((q).num.natAbs / (q).den) → ∃ cells, Tryz.prog.built 25 [(0, u), (1, v)] = some cells ∧ UV W (m + 1) (.agg cells) (q.num / (q.den : Int)) := fun u v W hu hv => by
    have := b_int hu hv hF
    rw [show (if false then -((((q).num.natAbs / (q).den) : Nat) : Int) else ((((q).num.natAbs / (q).den) : Nat) : Int)) = q.num / (q.den : Int) from floor_pos q hs] at this
    exact this
  refine run_st [(fRV m q).toSF] Tryz.func40 rfl (by kernel_rfl) ⟨h, trivial⟩ fun a s => ?_
  refine wpIn_seq ?_
  refine region_go 0 [] hmix s (by kernel_rfl)
    obs_nil fun a w1 s => ?_
  refine t_box (CU.agg (fRV (m) (q))) rfl s (by kernel_rfl) (fun v W h => rv_box h) fun b1 a w s => ?_
  refine t_alloc (CU.len 2) (cs := [.bool false, .slice none 0 0]) (by kernel_rfl) rfl s (by kernel_rfl) (fun W => rfl) rfl fun b2 a w s => ?_
  refine tail_end rfl ?_
  refine wpIn_seq ?_
  have so := s.old; have sg := s.gr
  refine region_goN 3 ((7, .s ((fRV (m) (q)).toSF)) :: (8, .s (SF.newBox w 59 (CU.agg (fQN (q))))) :: (3, .s (SF.newBox w 59 (CU.agg (fQN (q))))) :: []) hmix s (by kernel_rfl)
    (obs_cons (ok_ldW (f := fRV (m) (q)) 3 (by kernel_rfl) (hz := rv_len _ _)) <| obs_cons (ok_call1 wide_wide en_43 (fun u0 W hb (h0 : RVp (m) (q) u0 W) => (rof_q h0 (by omega) (hT.below (s.up hb))).mono (Ret.to (newBox_old hb.size)))) <| obs_cons (ok_assign) <| obs_nil) fun a w2 s hr => ?_
  obtain ⟨b3, _, s⟩ := s.adopt true 3 (hr (_, _) (.tail _ (.tail _ (.head _)))) sg (fun y hy => .inl (so y hy))
  refine tail_end rfl ?_
  refine wpIn_seq ?_
  refine region_go 19 ((10, .s (SF.pb b3 (CU.agg (fQN (q))).cf)) :: (11, .s (SF.ptr (CU.agg (fQN (q))).cf)) :: (12, .s (SF.ptr ((CU.agg (fQN (q))).cf.at 0))) :: (13, .s (SF.ptr ((CU.agg (fQN (q))).cf.at 0))) :: (14, .s (SF.ptr ((CU.agg (fQN (q))).cf.at 1))) :: (15, .s ((fNat ((q).num.natAbs)).toSF)) :: (16, .s (SF.pb b3 (CU.agg (fQN (q))).cf)) :: (17, .s (SF.ptr (CU.agg (fQN (q))).cf)) :: (18, .s (SF.ptr ((CU.agg (fQN (q))).cf.at 0))) :: (19, .s (SF.ptr ((CU.agg (fQN (q))).cf.at 2))) :: (20, .s ((fNat ((q).den)).toSF)) :: (21, .s ((fTup3 (fNat (((q).num.natAbs / (q).den))) (fNat (((q).num.natAbs % (q).den))) (UF.eq (.int .i64 (0)))).toSF)) :: (9, .s ((fTup3 (fNat (((q).num.natAbs / (q).den))) (fNat (((q).num.natAbs % (q).den))) (UF.eq (.int .i64 (0)))).toSF)) :: (22, .s ((fNat (((q).num.natAbs / (q).den))).toSF)) :: (23, .s ((fNat (((q).num.natAbs % (q).den))).toSF)) :: (24, .s ((UF.eq (.int .i64 (0))).toSF)) :: (4, .u (fNat (((q).num.natAbs / (q).den)))) :: (5, .u (fNat (((q).num.natAbs % (q).den)))) :: (6, .s ((UF.eq (.int .i64 (0))).toSF)) :: []) hmix s (by kernel_rfl)
    (obs_cons (ok_move) <| obs_cons (ok_nil (C := (CU.agg (fQN (q))).cf)) <| obs_cons (ok_fld (C := (CU.agg (fQN (q))).cf) 0 (by kernel_rfl)) <| obs_cons (ok_fldn (C := (CU.agg (fQN (q))).cf) 0 0 (by kernel_rfl)) <| obs_cons (ok_fldn (C := (CU.agg (fQN (q))).cf) 0 1 (by kernel_rfl)) <| obs_cons (ok_ld (C := (CU.agg (fQN (q))).cf) (k := 1) (by kernel_rfl) (h := qn_abs)) <| obs_cons (ok_move) <| obs_cons (ok_nil (C := (CU.agg (fQN (q))).cf)) <| obs_cons (ok_fld (C := (CU.agg (fQN (q))).cf) 0 (by kernel_rfl)) <| obs_cons (ok_fldn (C := (CU.agg (fQN (q))).cf) 0 2 (by kernel_rfl)) <| obs_cons (ok_ld (C := (CU.agg (fQN (q))).cf) (k := 2) (by kernel_rfl) (h := qn_den)) <| obs_cons (ok_call2 wide_wide en_76 (fun u0 u1 W hb (h0 : NatV W u0 ((q).num.natAbs)) (h1 : NatV W u1 ((q).den)) => qdiv_v (NatV.lv h0 hq.1) (NatV.lv h1 hq.2) (by omega) q.den_pos)) <| obs_cons (ok_move) <| obs_cons (ok_ext30 (A := (fNat (((q).num.natAbs / (q).den))).toSF) (B := (fNat (((q).num.natAbs % (q).den))).toSF) (C := (UF.eq (.int .i64 (0))).toSF) (fun _ _ h => h)) <| obs_cons (ok_ext31 (A := (fNat (((q).num.natAbs / (q).den))).toSF) (B := (fNat (((q).num.natAbs % (q).den))).toSF) (C := (UF.eq (.int .i64 (0))).toSF) (fun _ _ h => h)) <| obs_cons (ok_ext32 (A := (fNat (((q).num.natAbs / (q).den))).toSF) (B := (fNat (((q).num.natAbs % (q).den))).toSF) (C := (UF.eq (.int .i64 (0))).toSF) (fun _ _ h => h)) <| obs_cons (ok_assign) <| obs_cons (ok_assign) <| obs_cons (ok_assign) <| obs_nil) fun a w3 s => ?_
  refine tail_end rfl ?_
  refine wpIn_seq ?_
  refine wpIn_seq ?_
  refine region_go 11 ((25, .s (SF.pb b3 (CU.agg (fQN (q))).cf)) :: (26, .s (SF.ptr (CU.agg (fQN (q))).cf)) :: (27, .s (SF.ptr ((CU.agg (fQN (q))).cf.at 0))) :: (28, .s (SF.ptr ((CU.agg (fQN (q))).cf.at 0))) :: (29, .s (SF.ptr ((CU.agg (fQN (q))).cf.at 0))) :: (30, .s ((UF.eq (.bool false)).toSF)) :: (31, .s ((UF.eq (.bool false)).toSF)) :: (35, .u (UF.eq (.bool false))) :: []) hmix s (by kernel_rfl)
    (obs_cons (ok_move) <| obs_cons (ok_nil (C := (CU.agg (fQN (q))).cf)) <| obs_cons (ok_fld (C := (CU.agg (fQN (q))).cf) 0 (by kernel_rfl)) <| obs_cons (ok_fldn (C := (CU.agg (fQN (q))).cf) 0 0 (by kernel_rfl)) <| obs_cons (ok_fldn (C := (CU.agg (fQN (q))).cf) 0 0 (by kernel_rfl)) <| obs_cons (ok_ld (C := (CU.agg (fQN (q))).cf) (k := 0) (by kernel_rfl) (h := fun cs W h => hsg cs W h)) <| obs_cons (ok_move) <| obs_cons (ok_guard 31 false (by kernel_rfl) (fun _ _ h => h) (fun e => by cases e) (fun _ _ => trivial)) <| obs_cons (ok_guard 31 false (by kernel_rfl) (fun _ _ h => h) (fun e => by cases e) (fun _ _ => trivial)) <| obs_cons (ok_guard 31 false (by kernel_rfl) (fun _ _ h => h) (fun e => by cases e) (fun _ _ => trivial)) <| obs_cons (ok_pick false (fun _ _ h => h) (fun e => by cases e) (fun _ _ _ h => h)) <| obs_nil) fun a w4 s => ?_
  refine tail_end rfl ?_
  refine StS.cond s false (fun _ _ h => h) (fun e => by cases e) (fun e => ?_)
  refine wpIn_skip ?_
  refine wpIn_seq ?_
  refine region_go 9 ((40, .s (SF.pb b3 (CU.agg (fQN (q))).cf)) :: (41, .s (SF.ptr (CU.agg (fQN (q))).cf)) :: (42, .s (SF.ptr ((CU.agg (fQN (q))).cf.at 0))) :: (43, .s (SF.ptr ((CU.agg (fQN (q))).cf.at 0))) :: (44, .s (SF.ptr ((CU.agg (fQN (q))).cf.at 0))) :: (45, .s ((UF.eq (.bool false)).toSF)) :: (46, .s ((fNat (((q).num.natAbs / (q).den))).toSF)) :: (47, .s ((fUV ((m + 1)) ((q.num / (q.den : Int)))).toSF)) :: (48, .u (fNV ((q.num / (q.den : Int))))) :: []) hmix s (by kernel_rfl)
    (obs_cons (ok_move) <| obs_cons (ok_nil (C := (CU.agg (fQN (q))).cf)) <| obs_cons (ok_fld (C := (CU.agg (fQN (q))).cf) 0 (by kernel_rfl)) <| obs_cons (ok_fldn (C := (CU.agg (fQN (q))).cf) 0 0 (by kernel_rfl)) <| obs_cons (ok_fldn (C := (CU.agg (fQN (q))).cf) 0 0 (by kernel_rfl)) <| obs_cons (ok_ld (C := (CU.agg (fQN (q))).cf) (k := 0) (by kernel_rfl) (h := fun cs W h => hsg cs W h)) <| obs_cons (ok_move) <| obs_cons (ok_build2 hbi) <| obs_cons (ok_call1 wide_wide en_78 (fun u0 W hb (h0 : UV W ((m + 1)) u0 ((q.num / (q.den : Int)))) => norm_v h0 (by omega))) <| obs_nil) fun a w5 s => ?_
  refine t_store (CU.agg (fNV ((q.num / (q.den : Int))))) ((fNV ((q.num / (q.den : Int)))).toSF) rfl s (by kernel_rfl) rfl rfl rfl (fun _ _ h => h) (fun _ _ h => h) (nv_store) fun a w s => ?_
  refine tail_end rfl ?_
  refine wpIn_ret ?_
  exact StS.resC s (CU.agg (fNV (q.num / (q.den : Int)))) rfl (by kernel_rfl) rfl rfl (nv_len _) (fun cs W h => h)

set_option maxRecDepth 100000 in
theorem rFloor_b {W : World} {m : Nat} {v : Value} {q : Rat} (h : RVp m q v W) (hm : m ≤ 300) (hm0 : 0 < m) (hT : Tab W) (hs : decide (q.num < 0) = true) (hrb : false = decide (0 < (q).num.natAbs % (q).den)) : Calls Tryz.prog 40 #[v] W (Ret W (fNV (q.num / (q.den : Int))).toSF) := by
  have hq : QB q m := h.qb hm0
  have hsg : ∀ cs W, (CU.agg (fQN q)).p cs W → ∃ u, cs[0]? = some u ∧ u = .bool true := fun cs W h => by rw [← hs]; exact qn_neg cs W h
  have hN : ((q).num.natAbs / (q).den) < BB ^ m := Nat.lt_of_le_of_lt (Nat.div_le_self _ _) hq.1
  have hNm : ((q).num.natAbs / (q).den) < BB ^ (m + 1) := Nat.lt_of_lt_of_le hN (Nat.pow_le_pow_right BB_pos (by omega))
  have hF : ((q).num.natAbs / (q).den) < BB ^ (m + 1) := hNm
  have hbi : ∀ u v W, u = .bool true → NatV W v ((q).num.natAbs / (q).den) → ∃ cells, Tryz.prog.built 25 [(0, u), (1, v)] = some cells ∧ UV W (m + 1) (.agg cells) (q.num / (q.den : Int)) := fun u v W hu hv => by
    have := b_int hu hv hF
    rw [show (if true then -((((q).num.natAbs / (q).den) : Nat) : Int) else ((((q).num.natAbs / (q).den) : Nat) : Int)) = q.num / (q.den : Int) from floor_negE q hs hrb] at this
    exact this
  refine run_st [(fRV m q).toSF] Tryz.func40 rfl (by kernel_rfl) ⟨h, trivial⟩ fun a s => ?_
  refine wpIn_seq ?_
  refine region_go 0 [] hmix s (by kernel_rfl)
    obs_nil fun a w1 s => ?_
  refine t_box (CU.agg (fRV (m) (q))) rfl s (by kernel_rfl) (fun v W h => rv_box h) fun b1 a w s => ?_
  refine t_alloc (CU.len 2) (cs := [.bool false, .slice none 0 0]) (by kernel_rfl) rfl s (by kernel_rfl) (fun W => rfl) rfl fun b2 a w s => ?_
  refine tail_end rfl ?_
  refine wpIn_seq ?_
  have so := s.old; have sg := s.gr
  refine region_goN 3 ((7, .s ((fRV (m) (q)).toSF)) :: (8, .s (SF.newBox w 59 (CU.agg (fQN (q))))) :: (3, .s (SF.newBox w 59 (CU.agg (fQN (q))))) :: []) hmix s (by kernel_rfl)
    (obs_cons (ok_ldW (f := fRV (m) (q)) 3 (by kernel_rfl) (hz := rv_len _ _)) <| obs_cons (ok_call1 wide_wide en_43 (fun u0 W hb (h0 : RVp (m) (q) u0 W) => (rof_q h0 (by omega) (hT.below (s.up hb))).mono (Ret.to (newBox_old hb.size)))) <| obs_cons (ok_assign) <| obs_nil) fun a w2 s hr => ?_
  obtain ⟨b3, _, s⟩ := s.adopt true 3 (hr (_, _) (.tail _ (.tail _ (.head _)))) sg (fun y hy => .inl (so y hy))
  refine tail_end rfl ?_
  refine wpIn_seq ?_
  refine region_go 19 ((10, .s (SF.pb b3 (CU.agg (fQN (q))).cf)) :: (11, .s (SF.ptr (CU.agg (fQN (q))).cf)) :: (12, .s (SF.ptr ((CU.agg (fQN (q))).cf.at 0))) :: (13, .s (SF.ptr ((CU.agg (fQN (q))).cf.at 0))) :: (14, .s (SF.ptr ((CU.agg (fQN (q))).cf.at 1))) :: (15, .s ((fNat ((q).num.natAbs)).toSF)) :: (16, .s (SF.pb b3 (CU.agg (fQN (q))).cf)) :: (17, .s (SF.ptr (CU.agg (fQN (q))).cf)) :: (18, .s (SF.ptr ((CU.agg (fQN (q))).cf.at 0))) :: (19, .s (SF.ptr ((CU.agg (fQN (q))).cf.at 2))) :: (20, .s ((fNat ((q).den)).toSF)) :: (21, .s ((fTup3 (fNat (((q).num.natAbs / (q).den))) (fNat (((q).num.natAbs % (q).den))) (UF.eq (.int .i64 (0)))).toSF)) :: (9, .s ((fTup3 (fNat (((q).num.natAbs / (q).den))) (fNat (((q).num.natAbs % (q).den))) (UF.eq (.int .i64 (0)))).toSF)) :: (22, .s ((fNat (((q).num.natAbs / (q).den))).toSF)) :: (23, .s ((fNat (((q).num.natAbs % (q).den))).toSF)) :: (24, .s ((UF.eq (.int .i64 (0))).toSF)) :: (4, .u (fNat (((q).num.natAbs / (q).den)))) :: (5, .u (fNat (((q).num.natAbs % (q).den)))) :: (6, .s ((UF.eq (.int .i64 (0))).toSF)) :: []) hmix s (by kernel_rfl)
    (obs_cons (ok_move) <| obs_cons (ok_nil (C := (CU.agg (fQN (q))).cf)) <| obs_cons (ok_fld (C := (CU.agg (fQN (q))).cf) 0 (by kernel_rfl)) <| obs_cons (ok_fldn (C := (CU.agg (fQN (q))).cf) 0 0 (by kernel_rfl)) <| obs_cons (ok_fldn (C := (CU.agg (fQN (q))).cf) 0 1 (by kernel_rfl)) <| obs_cons (ok_ld (C := (CU.agg (fQN (q))).cf) (k := 1) (by kernel_rfl) (h := qn_abs)) <| obs_cons (ok_move) <| obs_cons (ok_nil (C := (CU.agg (fQN (q))).cf)) <| obs_cons (ok_fld (C := (CU.agg (fQN (q))).cf) 0 (by kernel_rfl)) <| obs_cons (ok_fldn (C := (CU.agg (fQN (q))).cf) 0 2 (by kernel_rfl)) <| obs_cons (ok_ld (C := (CU.agg (fQN (q))).cf) (k := 2) (by kernel_rfl) (h := qn_den)) <| obs_cons (ok_call2 wide_wide en_76 (fun u0 u1 W hb (h0 : NatV W u0 ((q).num.natAbs)) (h1 : NatV W u1 ((q).den)) => qdiv_v (NatV.lv h0 hq.1) (NatV.lv h1 hq.2) (by omega) q.den_pos)) <| obs_cons (ok_move) <| obs_cons (ok_ext30 (A := (fNat (((q).num.natAbs / (q).den))).toSF) (B := (fNat (((q).num.natAbs % (q).den))).toSF) (C := (UF.eq (.int .i64 (0))).toSF) (fun _ _ h => h)) <| obs_cons (ok_ext31 (A := (fNat (((q).num.natAbs / (q).den))).toSF) (B := (fNat (((q).num.natAbs % (q).den))).toSF) (C := (UF.eq (.int .i64 (0))).toSF) (fun _ _ h => h)) <| obs_cons (ok_ext32 (A := (fNat (((q).num.natAbs / (q).den))).toSF) (B := (fNat (((q).num.natAbs % (q).den))).toSF) (C := (UF.eq (.int .i64 (0))).toSF) (fun _ _ h => h)) <| obs_cons (ok_assign) <| obs_cons (ok_assign) <| obs_cons (ok_assign) <| obs_nil) fun a w3 s => ?_
  refine tail_end rfl ?_
  refine wpIn_seq ?_
  refine wpIn_seq ?_
  refine region_go 11 ((25, .s (SF.pb b3 (CU.agg (fQN (q))).cf)) :: (26, .s (SF.ptr (CU.agg (fQN (q))).cf)) :: (27, .s (SF.ptr ((CU.agg (fQN (q))).cf.at 0))) :: (28, .s (SF.ptr ((CU.agg (fQN (q))).cf.at 0))) :: (29, .s (SF.ptr ((CU.agg (fQN (q))).cf.at 0))) :: (30, .s ((UF.eq (.bool true)).toSF)) :: (31, .s ((UF.eq (.bool true)).toSF)) :: (32, .s ((fNat (((q).num.natAbs % (q).den))).toSF)) :: (33, .s (fLen ((q).num.natAbs % (q).den))) :: (34, .s ((UF.eq (.bool false)).toSF)) :: (35, .u (UF.eq (.bool false))) :: []) hmix s (by kernel_rfl)
    (obs_cons (ok_move) <| obs_cons (ok_nil (C := (CU.agg (fQN (q))).cf)) <| obs_cons (ok_fld (C := (CU.agg (fQN (q))).cf) 0 (by kernel_rfl)) <| obs_cons (ok_fldn (C := (CU.agg (fQN (q))).cf) 0 0 (by kernel_rfl)) <| obs_cons (ok_fldn (C := (CU.agg (fQN (q))).cf) 0 0 (by kernel_rfl)) <| obs_cons (ok_ld (C := (CU.agg (fQN (q))).cf) (k := 0) (by kernel_rfl) (h := fun cs W h => hsg cs W h)) <| obs_cons (ok_move) <| obs_cons (ok_guard 31 true (by kernel_rfl) (fun _ _ h => h) (fun _ => ok_move) (fun e => absurd rfl e)) <| obs_cons (ok_guard 31 true (by kernel_rfl) (fun _ _ h => h) (fun _ => ok_lenN (by kernel_rfl) (fun _ _ h => h)) (fun e => absurd rfl e)) <| obs_cons (ok_guard 31 true (by kernel_rfl) (fun _ _ h => h) (fun _ => ok_gtr0 hrb) (fun e => absurd rfl e)) <| obs_cons (ok_pick true (fun _ _ h => h) (fun _ _ _ h => h) (fun e => by cases e)) <| obs_nil) fun a w4 s => ?_
  refine tail_end rfl ?_
  refine StS.cond s false (fun _ _ h => h) (fun e => by cases e) (fun e => ?_)
  refine wpIn_skip ?_
  refine wpIn_seq ?_
  refine region_go 9 ((40, .s (SF.pb b3 (CU.agg (fQN (q))).cf)) :: (41, .s (SF.ptr (CU.agg (fQN (q))).cf)) :: (42, .s (SF.ptr ((CU.agg (fQN (q))).cf.at 0))) :: (43, .s (SF.ptr ((CU.agg (fQN (q))).cf.at 0))) :: (44, .s (SF.ptr ((CU.agg (fQN (q))).cf.at 0))) :: (45, .s ((UF.eq (.bool true)).toSF)) :: (46, .s ((fNat (((q).num.natAbs / (q).den))).toSF)) :: (47, .s ((fUV ((m + 1)) ((q.num / (q.den : Int)))).toSF)) :: (48, .u (fNV ((q.num / (q.den : Int))))) :: []) hmix s (by kernel_rfl)
    (obs_cons (ok_move) <| obs_cons (ok_nil (C := (CU.agg (fQN (q))).cf)) <| obs_cons (ok_fld (C := (CU.agg (fQN (q))).cf) 0 (by kernel_rfl)) <| obs_cons (ok_fldn (C := (CU.agg (fQN (q))).cf) 0 0 (by kernel_rfl)) <| obs_cons (ok_fldn (C := (CU.agg (fQN (q))).cf) 0 0 (by kernel_rfl)) <| obs_cons (ok_ld (C := (CU.agg (fQN (q))).cf) (k := 0) (by kernel_rfl) (h := fun cs W h => hsg cs W h)) <| obs_cons (ok_move) <| obs_cons (ok_build2 hbi) <| obs_cons (ok_call1 wide_wide en_78 (fun u0 W hb (h0 : UV W ((m + 1)) u0 ((q.num / (q.den : Int)))) => norm_v h0 (by omega))) <| obs_nil) fun a w5 s => ?_
  refine t_store (CU.agg (fNV ((q.num / (q.den : Int))))) ((fNV ((q.num / (q.den : Int)))).toSF) rfl s (by kernel_rfl) rfl rfl rfl (fun _ _ h => h) (fun _ _ h => h) (nv_store) fun a w s => ?_
  refine tail_end rfl ?_
  refine wpIn_ret ?_
  exact StS.resC s (CU.agg (fNV (q.num / (q.den : Int)))) rfl (by kernel_rfl) rfl rfl (nv_len _) (fun cs W h => h)

set_option maxRecDepth 100000 in
theorem rFloor_c {W : World} {m : Nat} {v : Value} {q : Rat} (h : RVp m q v W) (hm : m ≤ 300) (hm0 : 0 < m) (hT : Tab W) (hs : decide (q.num < 0) = true) (hrb : true = decide (0 < (q).num.natAbs % (q).den)) : Calls Tryz.prog 40 #[v] W (Ret W (fNV (q.num / (q.den : Int))).toSF) := by
  have hq : QB q m := h.qb hm0
  have hsg : ∀ cs W, (CU.agg (fQN q)).p cs W → ∃ u, cs[0]? = some u ∧ u = .bool true := fun cs W h => by rw [← hs]; exact qn_neg cs W h
  have hN : ((q).num.natAbs / (q).den) < BB ^ m := Nat.lt_of_le_of_lt (Nat.div_le_self _ _) hq.1
  have hNm : ((q).num.natAbs / (q).den) < BB ^ (m + 1) := Nat.lt_of_lt_of_le hN (Nat.pow_le_pow_right BB_pos (by omega))
  have hF : (((q).num.natAbs / (q).den) + 1) < BB ^ (m + 1) := by have hp := Nat.pow_pos (n := m) BB_pos; rw [Nat.pow_succ]; unfold BB at *; omega
  have hbi : ∀ u v W, u = .bool true → NatV W v (((q).num.natAbs / (q).den) + 1) → ∃ cells, Tryz.prog.built 25 [(0, u), (1, v)] = some cells ∧ UV W (m + 1) (.agg cells) (q.num / (q.den : Int)) := fun u v W hu hv => by
    have := b_int hu hv hF
    rw [show (if true then -(((((q).num.natAbs / (q).den) + 1) : Nat) : Int) else (((((q).num.natAbs / (q).den) + 1) : Nat) : Int)) = q.num / (q.den : Int) from floor_negL q hs hrb] at this
    exact this
  refine run_st [(fRV m q).toSF] Tryz.func40 rfl (by kernel_rfl) ⟨h, trivial⟩ fun a s => ?_
  refine wpIn_seq ?_
  refine region_go 0 [] hmix s (by kernel_rfl)
    obs_nil fun a w1 s => ?_
  refine t_box (CU.agg (fRV (m) (q))) rfl s (by kernel_rfl) (fun v W h => rv_box h) fun b1 a w s => ?_
  refine t_alloc (CU.len 2) (cs := [.bool false, .slice none 0 0]) (by kernel_rfl) rfl s (by kernel_rfl) (fun W => rfl) rfl fun b2 a w s => ?_
  refine tail_end rfl ?_
  refine wpIn_seq ?_
  have so := s.old; have sg := s.gr
  refine region_goN 3 ((7, .s ((fRV (m) (q)).toSF)) :: (8, .s (SF.newBox w 59 (CU.agg (fQN (q))))) :: (3, .s (SF.newBox w 59 (CU.agg (fQN (q))))) :: []) hmix s (by kernel_rfl)
    (obs_cons (ok_ldW (f := fRV (m) (q)) 3 (by kernel_rfl) (hz := rv_len _ _)) <| obs_cons (ok_call1 wide_wide en_43 (fun u0 W hb (h0 : RVp (m) (q) u0 W) => (rof_q h0 (by omega) (hT.below (s.up hb))).mono (Ret.to (newBox_old hb.size)))) <| obs_cons (ok_assign) <| obs_nil) fun a w2 s hr => ?_
  obtain ⟨b3, _, s⟩ := s.adopt true 3 (hr (_, _) (.tail _ (.tail _ (.head _)))) sg (fun y hy => .inl (so y hy))
  refine tail_end rfl ?_
  refine wpIn_seq ?_
  refine region_go 19 ((10, .s (SF.pb b3 (CU.agg (fQN (q))).cf)) :: (11, .s (SF.ptr (CU.agg (fQN (q))).cf)) :: (12, .s (SF.ptr ((CU.agg (fQN (q))).cf.at 0))) :: (13, .s (SF.ptr ((CU.agg (fQN (q))).cf.at 0))) :: (14, .s (SF.ptr ((CU.agg (fQN (q))).cf.at 1))) :: (15, .s ((fNat ((q).num.natAbs)).toSF)) :: (16, .s (SF.pb b3 (CU.agg (fQN (q))).cf)) :: (17, .s (SF.ptr (CU.agg (fQN (q))).cf)) :: (18, .s (SF.ptr ((CU.agg (fQN (q))).cf.at 0))) :: (19, .s (SF.ptr ((CU.agg (fQN (q))).cf.at 2))) :: (20, .s ((fNat ((q).den)).toSF)) :: (21, .s ((fTup3 (fNat (((q).num.natAbs / (q).den))) (fNat (((q).num.natAbs % (q).den))) (UF.eq (.int .i64 (0)))).toSF)) :: (9, .s ((fTup3 (fNat (((q).num.natAbs / (q).den))) (fNat (((q).num.natAbs % (q).den))) (UF.eq (.int .i64 (0)))).toSF)) :: (22, .s ((fNat (((q).num.natAbs / (q).den))).toSF)) :: (23, .s ((fNat (((q).num.natAbs % (q).den))).toSF)) :: (24, .s ((UF.eq (.int .i64 (0))).toSF)) :: (4, .u (fNat (((q).num.natAbs / (q).den)))) :: (5, .u (fNat (((q).num.natAbs % (q).den)))) :: (6, .s ((UF.eq (.int .i64 (0))).toSF)) :: []) hmix s (by kernel_rfl)
    (obs_cons (ok_move) <| obs_cons (ok_nil (C := (CU.agg (fQN (q))).cf)) <| obs_cons (ok_fld (C := (CU.agg (fQN (q))).cf) 0 (by kernel_rfl)) <| obs_cons (ok_fldn (C := (CU.agg (fQN (q))).cf) 0 0 (by kernel_rfl)) <| obs_cons (ok_fldn (C := (CU.agg (fQN (q))).cf) 0 1 (by kernel_rfl)) <| obs_cons (ok_ld (C := (CU.agg (fQN (q))).cf) (k := 1) (by kernel_rfl) (h := qn_abs)) <| obs_cons (ok_move) <| obs_cons (ok_nil (C := (CU.agg (fQN (q))).cf)) <| obs_cons (ok_fld (C := (CU.agg (fQN (q))).cf) 0 (by kernel_rfl)) <| obs_cons (ok_fldn (C := (CU.agg (fQN (q))).cf) 0 2 (by kernel_rfl)) <| obs_cons (ok_ld (C := (CU.agg (fQN (q))).cf) (k := 2) (by kernel_rfl) (h := qn_den)) <| obs_cons (ok_call2 wide_wide en_76 (fun u0 u1 W hb (h0 : NatV W u0 ((q).num.natAbs)) (h1 : NatV W u1 ((q).den)) => qdiv_v (NatV.lv h0 hq.1) (NatV.lv h1 hq.2) (by omega) q.den_pos)) <| obs_cons (ok_move) <| obs_cons (ok_ext30 (A := (fNat (((q).num.natAbs / (q).den))).toSF) (B := (fNat (((q).num.natAbs % (q).den))).toSF) (C := (UF.eq (.int .i64 (0))).toSF) (fun _ _ h => h)) <| obs_cons (ok_ext31 (A := (fNat (((q).num.natAbs / (q).den))).toSF) (B := (fNat (((q).num.natAbs % (q).den))).toSF) (C := (UF.eq (.int .i64 (0))).toSF) (fun _ _ h => h)) <| obs_cons (ok_ext32 (A := (fNat (((q).num.natAbs / (q).den))).toSF) (B := (fNat (((q).num.natAbs % (q).den))).toSF) (C := (UF.eq (.int .i64 (0))).toSF) (fun _ _ h => h)) <| obs_cons (ok_assign) <| obs_cons (ok_assign) <| obs_cons (ok_assign) <| obs_nil) fun a w3 s => ?_
  refine tail_end rfl ?_
  refine wpIn_seq ?_
  refine wpIn_seq ?_
  refine region_go 11 ((25, .s (SF.pb b3 (CU.agg (fQN (q))).cf)) :: (26, .s (SF.ptr (CU.agg (fQN (q))).cf)) :: (27, .s (SF.ptr ((CU.agg (fQN (q))).cf.at 0))) :: (28, .s (SF.ptr ((CU.agg (fQN (q))).cf.at 0))) :: (29, .s (SF.ptr ((CU.agg (fQN (q))).cf.at 0))) :: (30, .s ((UF.eq (.bool true)).toSF)) :: (31, .s ((UF.eq (.bool true)).toSF)) :: (32, .s ((fNat (((q).num.natAbs % (q).den))).toSF)) :: (33, .s (fLen ((q).num.natAbs % (q).den))) :: (34, .s ((UF.eq (.bool true)).toSF)) :: (35, .u (UF.eq (.bool true))) :: []) hmix s (by kernel_rfl)
    (obs_cons (ok_move) <| obs_cons (ok_nil (C := (CU.agg (fQN (q))).cf)) <| obs_cons (ok_fld (C := (CU.agg (fQN (q))).cf) 0 (by kernel_rfl)) <| obs_cons (ok_fldn (C := (CU.agg (fQN (q))).cf) 0 0 (by kernel_rfl)) <| obs_cons (ok_fldn (C := (CU.agg (fQN (q))).cf) 0 0 (by kernel_rfl)) <| obs_cons (ok_ld (C := (CU.agg (fQN (q))).cf) (k := 0) (by kernel_rfl) (h := fun cs W h => hsg cs W h)) <| obs_cons (ok_move) <| obs_cons (ok_guard 31 true (by kernel_rfl) (fun _ _ h => h) (fun _ => ok_move) (fun e => absurd rfl e)) <| obs_cons (ok_guard 31 true (by kernel_rfl) (fun _ _ h => h) (fun _ => ok_lenN (by kernel_rfl) (fun _ _ h => h)) (fun e => absurd rfl e)) <| obs_cons (ok_guard 31 true (by kernel_rfl) (fun _ _ h => h) (fun _ => ok_gtr0 hrb) (fun e => absurd rfl e)) <| obs_cons (ok_pick true (fun _ _ h => h) (fun _ _ _ h => h) (fun e => by cases e)) <| obs_nil) fun a w4 s => ?_
  refine tail_end rfl ?_
  refine StS.cond s true (fun _ _ h => h) (fun e => ?_) (fun e => by cases e)
  refine region_goS 4 ((36, .s ((fNat (((q).num.natAbs / (q).den))).toSF)) :: (37, .s ((fNat (1)).toSF)) :: (38, .s (fNS (m + 1) [((q).num.natAbs / (q).den), 1])) :: (39, .u (fNat ((((q).num.natAbs / (q).den) + 1)))) :: []) s (by kernel_rfl)
    (obs_cons (ok_move) <| obs_cons (ok_slice1 (fun u W (hu : u = .int .u32 1) => sl_one hu)) <| obs_cons (ok_slice2 (fun u v W (hu : NatV W u ((q).num.natAbs / (q).den)) (hv : NatV W v 1) => sl_nat2 (NatV.lv hu hNm) (NatV.lv hv (one_lt_BB (by omega))))) <| obs_cons (ok_call1 wide_wide en_77 (fun u0 W hb (h0 : (fNS (m + 1) [((q).num.natAbs / (q).den), 1]).p u0 W) => nadd2_v h0 (by omega))) <| obs_nil) fun a w5 s => ?_
  replace s := s.drop [4]
  refine t_set (fNat ((((q).num.natAbs / (q).den) + 1))) rfl s (by kernel_rfl) (fun _ _ h => h) fun a w s => ?_
  refine tail_end rfl ?_
  refine wpIn_seq ?_
  refine region_go 9 ((40, .s (SF.pb b3 (CU.agg (fQN (q))).cf)) :: (41, .s (SF.ptr (CU.agg (fQN (q))).cf)) :: (42, .s (SF.ptr ((CU.agg (fQN (q))).cf.at 0))) :: (43, .s (SF.ptr ((CU.agg (fQN (q))).cf.at 0))) :: (44, .s (SF.ptr ((CU.agg (fQN (q))).cf.at 0))) :: (45, .s ((UF.eq (.bool true)).toSF)) :: (46, .s ((fNat ((((q).num.natAbs / (q).den) + 1))).toSF)) :: (47, .s ((fUV ((m + 1)) ((q.num / (q.den : Int)))).toSF)) :: (48, .u (fNV ((q.num / (q.den : Int))))) :: []) hmix s (by kernel_rfl)
    (obs_cons (ok_move) <| obs_cons (ok_nil (C := (CU.agg (fQN (q))).cf)) <| obs_cons (ok_fld (C := (CU.agg (fQN (q))).cf) 0 (by kernel_rfl)) <| obs_cons (ok_fldn (C := (CU.agg (fQN (q))).cf) 0 0 (by kernel_rfl)) <| obs_cons (ok_fldn (C := (CU.agg (fQN (q))).cf) 0 0 (by kernel_rfl)) <| obs_cons (ok_ld (C := (CU.agg (fQN (q))).cf) (k := 0) (by kernel_rfl) (h := fun cs W h => hsg cs W h)) <| obs_cons (ok_move) <| obs_cons (ok_build2 hbi) <| obs_cons (ok_call1 wide_wide en_78 (fun u0 W hb (h0 : UV W ((m + 1)) u0 ((q.num / (q.den : Int)))) => norm_v h0 (by omega))) <| obs_nil) fun a w6 s => ?_
  refine t_store (CU.agg (fNV ((q.num / (q.den : Int))))) ((fNV ((q.num / (q.den : Int)))).toSF) rfl s (by kernel_rfl) rfl rfl rfl (fun _ _ h => h) (fun _ _ h => h) (nv_store) fun a w s => ?_
  refine tail_end rfl ?_
  refine wpIn_ret ?_
  exact StS.resC s (CU.agg (fNV (q.num / (q.den : Int)))) rfl (by kernel_rfl) rfl rfl (nv_len _) (fun cs W h => h)

theorem rFloor_q {W : World} {m : Nat} {v : Value} {q : Rat} (h : RVp m q v W) (hm : m ≤ 300) (hm0 : 0 < m) (hT : Tab W) : Calls Tryz.prog 40 #[v] W (Ret W (fNV (q.num / (q.den : Int))).toSF) := by
  cases hs : decide (q.num < 0)
  · exact rFloor_a h hm hm0 hT hs
  · cases hr : decide (0 < q.num.natAbs % q.den)
    · exact rFloor_b h hm hm0 hT hs hr.symm
    · exact rFloor_c h hm hm0 hT hs hr.symm

end Go.Proofs.Wd


namespace Go.Proofs.Wd
open Go.RowKit Lb

theorem r5told_t {W : World} {v v' : Value} {k : Int} (h : NV W v k) (h' : NV W v' k) : Calls Tryz.prog 39 #[v, v'] W (Ret W (fB true).toSF) := by
  obtain ⟨A, n, c, l, rfl, h1, h2⟩ := h
  obtain ⟨A', n', c', l', rfl, h1', h2'⟩ := h'
  refine (r5told_any _ A n c l _ A' n' c' l' W h2 h2').mono fun e w' ⟨e1, hb⟩ => ⟨_, e1, ?_, hb⟩
  rw [h1.inj h1']
  simp [fB, UF.eq, UF.mk']
theorem r1same_t {W : World} {v v' : Value} {x : Nat} (h : NatV W v x) (h' : NatV W v' x) : Calls Tryz.prog 12 #[v, v'] W (Ret W (fB true).toSF) := by
  obtain ⟨A, n, c, l, rfl, h1, h2⟩ := h
  obtain ⟨A', n', c', l', rfl, h1', h2'⟩ := h'
  refine (rsame_any A n c l A' n' c' l' W h2 h2').mono fun e w' ⟨e1, nq, hw⟩ => ⟨_, e1, ?_, ?_⟩
  · rw [h1.inj h1']
    simp [fB, UF.eq, UF.mk']
  · subst hw
    exact below_dn nq
def UVx (n : Nat) (k : Int) (v : Value) (w : World) : Prop := ∃ s A c l, v = .agg #[.bool s, .slice A n c] ∧ Rd w A n c l ∧ Lt l ∧ iv s l = k
def LVx (n x : Nat) (v : Value) (w : World) : Prop := ∃ A c l, v = .slice A n c ∧ Rd w A n c l ∧ Lt l ∧ val l = x
def QXp (n n' : Nat) (k : Int) (d : Nat) (v : Value) (w : World) : Prop := ∃ b s t, v = .agg #[b, s, t] ∧ UVx n k (.agg #[b, s]) w ∧ LVx n' d t w
def fQX (n n' : Nat) (k : Int) (d : Nat) : UF := .mk' (QXp n n' k d) fun _ _ _ ⟨b, s, t, e, ⟨sg, A, c, l, e1, h1, h2⟩, A', c', l', e2, h1', h2'⟩ u => ⟨b, s, t, e, ⟨sg, A, c, l, e1, h1.keepU u, h2⟩, A', c', l', e2, h1'.keepU u, h2'⟩
theorem qx_qv {n n' m : Nat} {k : Int} {d : Nat} {v : Value} {W : World} (h : QXp n n' k d v W) (h1 : n ≤ m) (h2 : n' ≤ m) : QVp m k d v W := by
  obtain ⟨b, s, t, e, ⟨sg, A, c, l, e1, g1, g2, g3⟩, A', c', l', e2, g1', g2', g3'⟩ := h
  exact ⟨b, s, t, e, ⟨sg, A, n, c, l, e1, g1, g2, h1, g3⟩, A', n', c', l', e2, g1', g2', h2, g3'⟩
theorem qx_abs {n n' : Nat} {k : Int} {d : Nat} (cs : List Value) (W : World) (h : (CU.agg (fQX n n' k d)).p cs W) : ∃ u, cs[1]? = some u ∧ ∃ A c, u = .slice A n c := by
  obtain ⟨b, s, t, e, ⟨sg, A, c, l, e1, _⟩, _⟩ := h
  rw [cells3 e]
  have := congrArg Array.toList (agg_inj e1)
  simp at this
  exact ⟨s, rfl, A, c, this.2⟩
theorem qx_den {n n' : Nat} {k : Int} {d : Nat} (cs : List Value) (W : World) (h : (CU.agg (fQX n n' k d)).p cs W) : ∃ u, cs[2]? = some u ∧ ∃ A c, u = .slice A n' c := by
  obtain ⟨b, s, t, e, _, A, c, l, e1, _⟩ := h
  rw [cells3 e]
  exact ⟨t, rfl, A, c, e1⟩
theorem qx_len (n n' : Nat) (k : Int) (d : Nat) : ∀ cs : List Value, ∀ W, (fQX n n' k d).p (.agg cs.toArray) W → cs.length = 3 := fun cs W ⟨b, s, t, e, _⟩ => by rw [cells3 e]; rfl
def fSl (n : Nat) : UF := .mk' (fun v _ => ∃ A c, v = .slice A n c) fun _ _ _ h _ => h

set_option maxRecDepth 100000 in
theorem r7told_t {W : World} {v v' : Value} {q : Rat} (h : QNp q v W) (h' : QNp q v' W) : Calls Tryz.prog 42 #[v, v'] W (Ret W (fB true).toSF) := by
  refine run_st [(fQN q).toSF, (fQN q).toSF] Tryz.func42 rfl (by kernel_rfl) ⟨h, h', trivial⟩ fun a s => ?_
  refine wpIn_seq ?_
  refine region_go 0 [] hmix s (by kernel_rfl)
    obs_nil fun a w1 s => ?_
  refine t_box (CU.agg (fQN (q))) rfl s (by kernel_rfl) (fun v W h => qn_box h) fun b2 a w s => ?_
  refine t_box (CU.agg (fQN (q))) rfl s (by kernel_rfl) (fun v W h => qn_box h) fun b3 a w s => ?_
  refine t_set (UF.eq (.bool false)) rfl s (by kernel_rfl) (fun _ _ h => h) fun a w s => ?_
  refine tail_end rfl ?_
  refine wpIn_seq ?_
  replace s := s.drop [4]
  refine region_go 13 ((5, .s (SF.ptr ((CU.agg (fQN (q))).cf.at 0))) :: (6, .s ((fNV ((q).num)).toSF)) :: (7, .s (SF.ptr ((CU.agg (fQN (q))).cf.at 0))) :: (8, .s ((fNV ((q).num)).toSF)) :: (9, .s ((UF.eq (.bool true)).toSF)) :: (10, .s ((UF.eq (.bool true)).toSF)) :: (11, .s (SF.ptr ((CU.agg (fQN (q))).cf.at 2))) :: (12, .s ((fNat ((q).den)).toSF)) :: (13, .s (SF.ptr ((CU.agg (fQN (q))).cf.at 2))) :: (14, .s ((fNat ((q).den)).toSF)) :: (15, .s ((UF.eq (.bool true)).toSF)) :: (16, .s ((UF.eq (.bool true)).toSF)) :: (4, .u (UF.eq (.bool true))) :: []) hmix s (by kernel_rfl)
    (obs_cons (ok_fld (C := (CU.agg (fQN (q))).cf) 0 (by kernel_rfl)) <| obs_cons (ok_ldA (C := (CU.agg (fQN (q))).cf) (k := 0) 2 (by kernel_rfl) (h := qn_num)) <| obs_cons (ok_fld (C := (CU.agg (fQN (q))).cf) 0 (by kernel_rfl)) <| obs_cons (ok_ldA (C := (CU.agg (fQN (q))).cf) (k := 0) 2 (by kernel_rfl) (h := qn_num)) <| obs_cons (ok_call2 wide_wide en_39 (fun u0 u1 W hb (h0 : NV W u0 ((q).num)) (h1 : NV W u1 ((q).num)) => r5told_t h0 h1)) <| obs_cons (ok_move) <| obs_cons (ok_guard 10 true (by kernel_rfl) (fun _ _ h => h) (fun _ => ok_fld (C := (CU.agg (fQN (q))).cf) 2 (by kernel_rfl)) (fun e => absurd rfl e)) <| obs_cons (ok_guard 10 true (by kernel_rfl) (fun _ _ h => h) (fun _ => ok_ld (C := (CU.agg (fQN (q))).cf) (k := 2) (by kernel_rfl) (h := qn_den)) (fun e => absurd rfl e)) <| obs_cons (ok_guard 10 true (by kernel_rfl) (fun _ _ h => h) (fun _ => ok_fld (C := (CU.agg (fQN (q))).cf) 2 (by kernel_rfl)) (fun e => absurd rfl e)) <| obs_cons (ok_guard 10 true (by kernel_rfl) (fun _ _ h => h) (fun _ => ok_ld (C := (CU.agg (fQN (q))).cf) (k := 2) (by kernel_rfl) (h := qn_den)) (fun e => absurd rfl e)) <| obs_cons (ok_guard 10 true (by kernel_rfl) (fun _ _ h => h) (fun _ => ok_call2 wide_wide en_12 (fun u0 u1 W hb (h0 : NatV W u0 ((q).den)) (h1 : NatV W u1 ((q).den)) => r1same_t h0 h1)) (fun e => absurd rfl e)) <| obs_cons (ok_pick true (fun _ _ h => h) (fun _ _ _ h => h) (fun e => by cases e)) <| obs_cons (ok_assign) <| obs_nil) fun a w2 s => ?_
  refine tail_end rfl ?_
  refine wpIn_ret ?_
  exact StS.res1 s (t := 4) rfl (fun _ _ h => h)

set_option maxRecDepth 100000 in
theorem l7same_t {W : World} {v v' : Value} {q : Rat} (h : QNp q v W) (h' : QNp q v' W) : Calls Tryz.prog 9 #[v, v'] W (Ret W (fB true).toSF) := by
  refine run_st [(fQN q).toSF, (fQN q).toSF] Tryz.func9 rfl (by kernel_rfl) ⟨h, h', trivial⟩ fun a s => ?_
  refine wpIn_seq ?_
  refine region_go 0 [] hmix s (by kernel_rfl)
    obs_nil fun a w1 s => ?_
  refine t_box (CU.agg (fQN (q))) rfl s (by kernel_rfl) (fun v W h => qn_box h) fun b2 a w s => ?_
  refine t_box (CU.agg (fQN (q))) rfl s (by kernel_rfl) (fun v W h => qn_box h) fun b3 a w s => ?_
  refine t_set (UF.eq (.bool false)) rfl s (by kernel_rfl) (fun _ _ h => h) fun a w s => ?_
  refine tail_end rfl ?_
  refine wpIn_seq ?_
  replace s := s.drop [4]
  refine region_go 4 ((5, .s ((fQN (q)).toSF)) :: (6, .s ((fQN (q)).toSF)) :: (7, .s ((UF.eq (.bool true)).toSF)) :: (4, .u (UF.eq (.bool true))) :: []) hmix s (by kernel_rfl)
    (obs_cons (ok_ldW (f := fQN (q)) 3 (by kernel_rfl) (hz := qn_len _)) <| obs_cons (ok_ldW (f := fQN (q)) 3 (by kernel_rfl) (hz := qn_len _)) <| obs_cons (ok_call2 wide_wide en_42 (fun u0 u1 W hb (h0 : QNp (q) u0 W) (h1 : QNp (q) u1 W) => r7told_t h0 h1)) <| obs_cons (ok_assign) <| obs_nil) fun a w2 s => ?_
  refine tail_end rfl ?_
  refine wpIn_ret ?_
  exact StS.res1 s (t := 4) rfl (fun _ _ h => h)

end Go.Proofs.Wd


namespace Go.Proofs.Wd
open Go.RowKit Lb

structure QX where
  n : Nat
  n' : Nat
  k : Int
  d : Nat
abbrev QX.cu (x : QX) : CU := CU.agg (fQX x.n x.n' x.k x.d)
def qlens (L : List QX) (k : Nat) : Nat := ((L.take k).map fun x => min (x.n + x.n') 1000).sum
theorem qlens_succ {L : List QX} {k : Nat} {x : QX} (h : L[k]? = some x) : qlens L (k + 1) = qlens L k + min (x.n + x.n') 1000 := by
  unfold qlens
  rw [List.take_add_one, h]
  simp
theorem qlens_le (L : List QX) (k : Nat) : qlens L k ≤ 1000 * k := by
  induction k with
  | zero => simp [qlens]
  | succ k ih =>
    cases h : L[k]? with
    | none =>
      have : qlens L (k + 1) = qlens L k := by unfold qlens; rw [List.take_add_one, h]; simp
      omega
    | some x =>
      rw [qlens_succ h]
      omega
theorem qlens_mem {L : List QX} {k i : Nat} {x : QX} (h : L[i]? = some x) (hi : i < k) : min (x.n + x.n') 1000 ≤ qlens L k := by
  induction k with
  | zero => omega
  | succ k ih =>
    by_cases e : i = k
    · subst e; rw [qlens_succ h]; omega
    · have h1 := ih (by omega)
      cases h2 : L[k]? with
      | none =>
        have : qlens L (k + 1) = qlens L k := by unfold qlens; rw [List.take_add_one, h2]; simp
        omega
      | some y => rw [qlens_succ h2]; omega
def gq (L : List QX) : Bool := decide ((((L.map QX.cu).length : Nat) : Int) > 60) || decide (((qlens L (min (L.map QX.cu).length 61) : Nat) : Int) > 40)
theorem gq_false {L : List QX} (h : gq L = false) : ∀ x, x ∈ L → x.n ≤ 40 ∧ x.n' ≤ 40 := by
  unfold gq at h
  rw [Bool.or_eq_false_iff] at h
  have h1 := of_decide_eq_false h.1
  have h2 := of_decide_eq_false h.2
  rw [List.length_map] at h1 h2
  intro x hx
  obtain ⟨i, hi⟩ := List.getElem?_of_mem hx
  have hlt := (List.getElem?_eq_some_iff.1 hi).1
  have h3 := qlens_mem hi (k := min L.length 61) (by omega)
  omega

theorem wrap64 (u : Int) (r : Nat) (h : u = r) (hr : r < 9223372036854775808) : IntKind.i64.wrap u = r := by
  subst h
  rw [IntKind.wrap_i64]
  omega
set_option maxRecDepth 100000 in
theorem r7great_t {W : World} {v : Value} {L : List QX} (h : (SF.row 3 (L.map QX.cu)).p v W) (hL : ∀ x, x ∈ L → x.n + x.n' < 9223372036854775808) : Calls Tryz.prog 5 #[v] W (Ret W (fB (gq L)).toSF) := by
  refine run_st [SF.row 3 (L.map QX.cu)] Tryz.func5 rfl (by kernel_rfl) ⟨h, trivial⟩ fun a s => ?_
  refine wpIn_seq ?_
  refine region_go 1 ((2, .u (UF.eq (.bool false))) :: []) hmix s (by kernel_rfl)
    (obs_cons (ok_assign) <| obs_nil) fun a w1 s => ?_
  refine tail_end rfl ?_
  refine wpIn_seq ?_
  refine region_go 1 ((3, .u (UF.eq (.int .i64 (0)))) :: []) hmix s (by kernel_rfl)
    (obs_cons (ok_assign) <| obs_nil) fun a w2 s => ?_
  refine tail_end rfl ?_
  refine wpIn_seq ?_
  refine wpIn_seq ?_
  refine region_go 1 ((4, .u (UF.eq (.int .i64 (0)))) :: []) hmix s (by kernel_rfl)
    (obs_cons (ok_assign) <| obs_nil) fun a w3 s => ?_
  refine tail_end rfl ?_
  refine wpIn_block ?_
  refine st_loop (min (L.map QX.cu).length 61) 4 (fun k => [(0, .o (SF.row 3 ((L).map QX.cu))), (4, .u (fI ((k : Nat) : Int))), (3, .u (fI ((qlens L (k) : Nat) : Int)))]) (fun k => .tail _ (.head _)) (s.keepK _ (List.forall_mem_cons.2 ⟨.tail _ (.tail _ (.tail _ (.head _))), List.forall_mem_cons.2 ⟨.head _, List.forall_mem_cons.2 ⟨.tail _ (.head _), List.forall_mem_nil _⟩⟩⟩)) fun k a w hk s => ?_
  refine wpIn_seq ?_
  refine wpIn_seq ?_
  refine region_go 8 ((5, .s ((fI ((k : Nat) : Int)).toSF)) :: (6, .s (SF.row 3 ((L).map QX.cu))) :: (7, .s ((UF.eq (.int .i64 (((((L).map QX.cu).length : Nat) : Int)))).toSF)) :: (8, .s ((UF.eq (.bool (decide (((k : Nat) : Int) < ((((L).map QX.cu).length : Nat) : Int))))).toSF)) :: (9, .s ((UF.eq (.bool (decide (((k : Nat) : Int) < ((((L).map QX.cu).length : Nat) : Int))))).toSF)) :: (10, .s (SF.imp (decide (((k : Nat) : Int) < ((((L).map QX.cu).length : Nat) : Int)) = true) ((fI ((k : Nat) : Int)).toSF))) :: (11, .s (SF.imp (decide (((k : Nat) : Int) < ((((L).map QX.cu).length : Nat) : Int)) = true) ((UF.eq (.bool (decide (((k : Nat) : Int) ≤ 60)))).toSF))) :: (12, .u (UF.eq (.bool ((decide (((k : Nat) : Int) < ((((L).map QX.cu).length : Nat) : Int))) && (decide (((k : Nat) : Int) ≤ 60)))))) :: []) hmix s (by kernel_rfl)
    (obs_cons (ok_move) <| obs_cons (ok_move) <| obs_cons (ok_lenR (z := 3) (Cs := (L).map QX.cu) (by kernel_rfl) (fun _ _ h => h) (fun _ => rfl)) <| obs_cons (ok_cmpI .i64 (((k : Nat) : Int)) (((((L).map QX.cu).length : Nat) : Int)) (decide (((k : Nat) : Int) < ((((L).map QX.cu).length : Nat) : Int))) (fun _ _ h => h) (fun _ _ h => h) rfl rfl) <| obs_cons (ok_move) <| obs_cons (ok_guard 9 (decide (((k : Nat) : Int) < ((((L).map QX.cu).length : Nat) : Int))) (by kernel_rfl) (fun _ _ h => h) (fun e => gd_imp [] ((fI ((k : Nat) : Int)).toSF) (List.forall_mem_nil _) (fun _ _ h _ => h) (by kernel_rfl) (ok_move)) (fun e W h => absurd h e)) <| obs_cons (ok_guard 9 (decide (((k : Nat) : Int) < ((((L).map QX.cu).length : Nat) : Int))) (by kernel_rfl) (fun _ _ h => h) (fun e => gd_imp [(10, (fI ((k : Nat) : Int)).toSF)] ((UF.eq (.bool (decide (((k : Nat) : Int) ≤ 60)))).toSF) (List.forall_mem_cons.2 ⟨fun v W h => imp_app (c := decide (((k : Nat) : Int) < ((((L).map QX.cu).length : Nat) : Int)) = true) (f := (fI ((k : Nat) : Int)).toSF) e h, List.forall_mem_nil _⟩) (fun _ _ h _ => h) (by kernel_rfl) (ok_cmpI .i64 (((k : Nat) : Int)) (60) (decide (((k : Nat) : Int) ≤ 60)) (fun _ _ h => h) (fun _ _ h => h) rfl rfl)) (fun e W h => absurd h e)) <| obs_cons (ok_pick (decide (((k : Nat) : Int) < ((((L).map QX.cu).length : Nat) : Int))) (fun _ _ h => h) (fun e v W h => pick_and (imp_app e h) e) (fun e v W h => pick_and' h e)) <| obs_nil) fun a w4 s => ?_
  refine tail_end rfl ?_
  refine StS.cond s ((decide (((k : Nat) : Int) < ((((L).map QX.cu).length : Nat) : Int))) && (decide (((k : Nat) : Int) ≤ 60))) (fun _ _ h => h) (fun e => ?_) (fun e => ?_)
  · rw [Bool.and_eq_true] at e
    have hk1 := of_decide_eq_true e.1
    have hk2 := of_decide_eq_true e.2
    have hk3 : k < L.length := by rw [List.length_map] at hk1; omega
    obtain ⟨x, hxl⟩ : ∃ x, L[k]? = some x := ⟨_, List.getElem?_eq_getElem hk3⟩
    have hx : (L.map QX.cu)[k]? = some x.cu := by rw [List.getElem?_map, hxl]; rfl
    have hxm := hL x (List.mem_of_getElem? hxl)
    have hgs := qlens_succ hxl
    have hgl := qlens_le L k
    refine wpIn_skip ?_
    refine wpIn_seq ?_
    refine wpIn_block ?_
    refine region_goPS (K := [(12, .u (UF.eq (.bool ((decide (((k : Nat) : Int) < ((((L).map QX.cu).length : Nat) : Int))) && (decide (((k : Nat) : Int) ≤ 60)))))), (0, .o (SF.row 3 ((L).map QX.cu))), (4, .u (fI ((k : Nat) : Int)))]) [(3, .u (fI ((qlens L (k) : Nat) : Int)))] [0, 1, 2, 8, 9] 17 ((15, .s ((fI ((qlens L (k) : Nat) : Int)).toSF)) :: (16, .s (SF.row 3 ((L).map QX.cu))) :: (17, .s ((fI ((k : Nat) : Int)).toSF)) :: (18, .s (SF.ptr (QX.cu x).cf)) :: (19, .s (SF.ptr ((QX.cu x).cf.at 0))) :: (20, .s (SF.ptr ((QX.cu x).cf.at 1))) :: (21, .s ((fSl (x.n)).toSF)) :: (22, .s ((UF.eq (.int .i64 (((x.n : Nat) : Int)))).toSF)) :: (23, .s (SF.row 3 ((L).map QX.cu))) :: (24, .s ((fI ((k : Nat) : Int)).toSF)) :: (25, .s (SF.ptr (QX.cu x).cf)) :: (26, .s (SF.ptr ((QX.cu x).cf.at 2))) :: (27, .s ((fSl (x.n')).toSF)) :: (28, .s ((UF.eq (.int .i64 (((x.n' : Nat) : Int)))).toSF)) :: (29, .s ((UF.eq (.int .i64 (((x.n + x.n' : Nat) : Int)))).toSF)) :: (30, .s ((UF.eq (.int .i64 (min (((x.n + x.n' : Nat) : Int)) (1000)))).toSF)) :: (31, .u (fI ((qlens L (k + 1) : Nat) : Int))) :: []) hmix (s.keepK _ (List.forall_mem_cons.2 ⟨.tail _ (.tail _ (.tail _ (.head _))), List.forall_mem_cons.2 ⟨.head _, List.forall_mem_cons.2 ⟨.tail _ (.head _), List.forall_mem_cons.2 ⟨.tail _ (.tail _ (.head _)), List.forall_mem_nil _⟩⟩⟩⟩)) (by kernel_rfl)
      (obs_cons (ok_move) <| obs_cons (ok_move) <| obs_cons (ok_move) <| obs_cons (ok_index (z := 3) (Cs := (L).map QX.cu) (i := k) (C := QX.cu x) (by kernel_rfl) hx (fun _ _ h => h) (fun _ _ h => h)) <| obs_cons (ok_fld (C := (QX.cu x).cf) 0 (by kernel_rfl)) <| obs_cons (ok_fldn (C := (QX.cu x).cf) 0 1 (by kernel_rfl)) <| obs_cons (ok_ld (C := (QX.cu x).cf) (k := 1) (by kernel_rfl) (h := qx_abs)) <| obs_cons (ok_len (by kernel_rfl) (fun v W ⟨A, c, e⟩ => ⟨A, x.n, c, e, rfl⟩)) <| obs_cons (ok_move) <| obs_cons (ok_move) <| obs_cons (ok_index (z := 3) (Cs := (L).map QX.cu) (i := k) (C := QX.cu x) (by kernel_rfl) hx (fun _ _ h => h) (fun _ _ h => h)) <| obs_cons (ok_fld (C := (QX.cu x).cf) 2 (by kernel_rfl)) <| obs_cons (ok_ld (C := (QX.cu x).cf) (k := 2) (by kernel_rfl) (h := qx_den)) <| obs_cons (ok_len (by kernel_rfl) (fun v W ⟨A, c, e⟩ => ⟨A, x.n', c, e, rfl⟩)) <| obs_cons (ok_addI .i64 (((x.n : Nat) : Int)) (((x.n' : Nat) : Int)) (((x.n + x.n' : Nat) : Int)) (fun _ _ h => h) (fun _ _ h => h) (wrap64 _ _ (by omega) (by omega))) <| obs_cons (ok_minI (((x.n + x.n' : Nat) : Int)) (1000) (fun _ _ h => h) (fun _ _ h => h)) <| obs_cons (ok_addI .i64 (((qlens L (k) : Nat) : Int)) (min (((x.n + x.n' : Nat) : Int)) (1000)) (((qlens L (k + 1) : Nat) : Int)) (fun _ _ h => h) (fun _ _ h => h) (wrap64 _ _ (by omega) (by omega))) <| obs_nil) fun Q' hQ a w5 s => ?_
    refine t_set (fI ((qlens L (k + 1) : Nat) : Int)) rfl s (by kernel_rfl) (fun _ _ h => h) fun a w s => ?_
    refine tail_end rfl (hQ _ _ ?_)
    refine region_goS 2 ((13, .s ((fI ((k : Nat) : Int)).toSF)) :: (14, .u (fI ((k + 1 : Nat) : Int))) :: []) s (by kernel_rfl)
      (obs_cons (ok_move) <| obs_cons (ok_addI .i64 (((k : Nat) : Int)) (1) (((k + 1 : Nat) : Int)) (fun _ _ h => h) (fun _ _ h => h) (wrap64 _ _ (by omega) (by omega))) <| obs_nil) fun a w6 s => ?_
    replace s := s.drop [4]
    refine t_set (fI ((k + 1 : Nat) : Int)) rfl s (by kernel_rfl) (fun _ _ h => h) fun a w s => ?_
    refine tail_end rfl ?_
    exact ⟨by omega, s.keepK _ (List.forall_mem_cons.2 ⟨.tail _ (.tail _ (.tail _ (.tail _ (.tail _ (.head _))))), List.forall_mem_cons.2 ⟨.head _, List.forall_mem_cons.2 ⟨.tail _ (.tail _ (.head _)), List.forall_mem_nil _⟩⟩⟩)⟩
  · rw [Bool.and_eq_false_iff] at e
    have hkN : k = min (L.map QX.cu).length 61 := by
      rcases e with e | e
      · have := of_decide_eq_false e; omega
      · have := of_decide_eq_false e; omega
    refine wpIn_exit ?_
    refine wpIn_seq ?_
    refine region_go 8 ((32, .s (SF.row 3 ((L).map QX.cu))) :: (33, .s ((UF.eq (.int .i64 (((((L).map QX.cu).length : Nat) : Int)))).toSF)) :: (34, .s ((UF.eq (.bool (decide (((((L).map QX.cu).length : Nat) : Int) > 60)))).toSF)) :: (35, .s ((UF.eq (.bool (decide (((((L).map QX.cu).length : Nat) : Int) > 60)))).toSF)) :: (36, .s (SF.imp (decide (((((L).map QX.cu).length : Nat) : Int) > 60) = false) ((fI ((qlens L (k) : Nat) : Int)).toSF))) :: (37, .s (SF.imp (decide (((((L).map QX.cu).length : Nat) : Int) > 60) = false) ((UF.eq (.bool (decide (((qlens L (k) : Nat) : Int) > 40)))).toSF))) :: (38, .s ((UF.eq (.bool ((decide (((((L).map QX.cu).length : Nat) : Int) > 60)) || (decide (((qlens L (k) : Nat) : Int) > 40))))).toSF)) :: (2, .u (UF.eq (.bool ((decide (((((L).map QX.cu).length : Nat) : Int) > 60)) || (decide (((qlens L (k) : Nat) : Int) > 40)))))) :: []) hmix s (by kernel_rfl)
      (obs_cons (ok_move) <| obs_cons (ok_lenR (z := 3) (Cs := (L).map QX.cu) (by kernel_rfl) (fun _ _ h => h) (fun _ => rfl)) <| obs_cons (ok_cmpI .i64 (((((L).map QX.cu).length : Nat) : Int)) (60) (decide (((((L).map QX.cu).length : Nat) : Int) > 60)) (fun _ _ h => h) (fun _ _ h => h) rfl rfl) <| obs_cons (ok_move) <| obs_cons (ok_guard 35 (decide (((((L).map QX.cu).length : Nat) : Int) > 60)) (by kernel_rfl) (fun _ _ h => h) (fun e => gd_imp [] ((fI ((qlens L (k) : Nat) : Int)).toSF) (List.forall_mem_nil _) (fun _ _ h _ => h) (by kernel_rfl) (ok_move)) (fun e W h => absurd h e)) <| obs_cons (ok_guard 35 (decide (((((L).map QX.cu).length : Nat) : Int) > 60)) (by kernel_rfl) (fun _ _ h => h) (fun e => gd_imp [(36, (fI ((qlens L (k) : Nat) : Int)).toSF)] ((UF.eq (.bool (decide (((qlens L (k) : Nat) : Int) > 40)))).toSF) (List.forall_mem_cons.2 ⟨fun v W h => imp_app (c := decide (((((L).map QX.cu).length : Nat) : Int) > 60) = false) (f := (fI ((qlens L (k) : Nat) : Int)).toSF) e h, List.forall_mem_nil _⟩) (fun _ _ h _ => h) (by kernel_rfl) (ok_cmpI .i64 (((qlens L (k) : Nat) : Int)) (40) (decide (((qlens L (k) : Nat) : Int) > 40)) (fun _ _ h => h) (fun _ _ h => h) rfl rfl)) (fun e W h => absurd h e)) <| obs_cons (ok_pick (decide (((((L).map QX.cu).length : Nat) : Int) > 60)) (fun _ _ h => h) (fun e v W h => pick_or h e) (fun e v W h => pick_or' (imp_app e h) e)) <| obs_cons (ok_assign) <| obs_nil) fun a w7 s => ?_
    refine tail_end rfl ?_
    refine wpIn_ret ?_
    exact StS.res1 s (t := 2) rfl (fun _ _ h => by rw [hkN] at h; exact h)

end Go.Proofs.Wd


namespace Lb
theorem tz_val {l : List Nat} (ht : Lt l) {j s x : Nat} (hj : j < l.length) (hz : ∀ i, i < j → lm l i = 0) (hx : lm l j = 2 ^ s * x) (ho : x % 2 = 1) : TZ (val l) (32 * j + s) ∧ s < 32 := by
  have hb := lm_BB ht j
  have hs : s < 32 := by
    have h1 : 2 ^ s * 1 ≤ 2 ^ s * x := Nat.mul_le_mul_left _ (by omega)
    rw [Nat.mul_one, ← hx] at h1
    exact (Nat.pow_lt_pow_iff_right (by decide)).1 (Nat.lt_of_le_of_lt h1 (by rw [BB_eq] at hb; simpa using hb))
  refine ⟨?_, hs⟩
  have e0 : val (l.take j) = 0 := by
    rw [val_take (by omega)]
    have : sm (lm l) j = sm (lm l) 0 := sm_ext (Nat.zero_le _) fun i _ hi => hz i hi
    rw [this]; rfl
  have e1 := val_take_drop l j (by omega)
  rw [e0, Nat.zero_add, val_drop hj, hx, BB_pow] at e1
  obtain ⟨y, hy⟩ : ∃ y, val (l.drop (j + 1)) = y := ⟨_, rfl⟩
  rw [hy, show BB = 2 ^ s * (2 * 2 ^ (31 - s)) from by rw [← Nat.pow_succ', ← Nat.pow_add, show s + (31 - s + 1) = 32 from by omega]; rfl, Nat.mul_assoc, ← Nat.mul_add, ← Nat.mul_assoc, ← Nat.pow_add] at e1
  refine ⟨x / 2 + 2 ^ (31 - s) * y, ?_⟩
  rw [e1]
  congr 1
  rw [Nat.mul_add, ← Nat.mul_assoc]
  omega
end Lb
namespace Go.Proofs.Wd
open Go.RowKit Lb

set_option maxHeartbeats 1000000 in
theorem twos_any (A : Option Addr) (n c : Nat) (l : List Nat) (w : World) (h : Rd w A n c l) (ht : Lt l) (h0 : 0 < val l) (hn : n ≤ 1000) :
    ∃ q t : Nat, TZ (val l) (32 * q + t) ∧ t ≤ 31 ∧ q < n ∧ Calls Tryz.prog 87 #[.slice A n c] w fun e w' => e = .returned (.int .i64 ((32 * q + t : Nat) : Int)) ∧ w' = w := by
  obtain ⟨j, hjn, hjz, hj0⟩ : ∃ j, j < n ∧ (∀ i, i < j → lm l i = 0) ∧ lm l j ≠ 0 := by
    have hex : ∃ j, lm l j ≠ 0 := by
      refine Classical.byContradiction fun hc => ?_
      have hz : ∀ i, lm l i = 0 := fun i => Classical.byContradiction fun e => hc ⟨i, e⟩
      have : sm (lm l) l.length = sm (lm l) 0 := sm_ext (Nat.zero_le _) fun i _ _ => hz i
      have e : val l = sm (lm l) l.length := rfl
      rw [e, this] at h0
      simp [sm] at h0
    have hmin : ∀ k, (∃ j, j ≤ k ∧ lm l j ≠ 0) → ∃ j, (∀ i, i < j → lm l i = 0) ∧ lm l j ≠ 0 := by
      intro k
      induction k with
      | zero => rintro ⟨j, hj, e⟩; exact ⟨j, fun i hi => by omega, e⟩
      | succ k ih =>
        rintro ⟨j, hj, e⟩
        by_cases hk : ∃ j, j ≤ k ∧ lm l j ≠ 0
        · exact ih hk
        · exact ⟨j, fun i hi => Classical.byContradiction fun e' => hk ⟨i, by omega, e'⟩, e⟩
    obtain ⟨j0, hj0⟩ := hex
    obtain ⟨j, h1, h2⟩ := hmin j0 ⟨j0, Nat.le_refl _, hj0⟩
    refine ⟨j, ?_, h1, h2⟩
    rw [← h.len]
    exact Nat.lt_of_not_le fun e => h2 (lm_ge e)
  obtain ⟨s, hs⟩ := TZ.exists (lm l j) (by omega)
  obtain ⟨m, hm⟩ := hs
  obtain ⟨htz, hs32⟩ := tz_val ht (s := s) (x := 2 * m + 1) (by rw [h.len]; exact hjn) hjz hm (by omega)
  refine ⟨j, s, htz, by omega, hjn, ?_⟩
  have hb := lm_BB ht j
  have hle := h.le; have hcap := h.cap
  have HJZ := hid hjz; have HM := hid hm; have HB := hid hb
  obtain ⟨d, hd⟩ : ∃ d : Nat → Nat, d = fun i => 2 ^ (s - i) * (2 * m + 1) := ⟨_, rfl⟩
  have hd0 : d 0 = lm l j := by rw [hd, hm]; rfl
  have hds : d s % 2 = 1 := by rw [hd]; simp
  have hdi : ∀ i, i < s → d i % 2 = 0 ∧ d i / 2 = d (i + 1) := fun i hi => by
    rw [hd]
    show 2 ^ (s - i) * (2 * m + 1) % 2 = 0 ∧ 2 ^ (s - i) * (2 * m + 1) / 2 = 2 ^ (s - (i + 1)) * (2 * m + 1)
    rw [show s - i = (s - (i + 1)) + 1 from by omega, Nat.pow_succ', Nat.mul_assoc]
    omega
  have hdl : ∀ i, d i ≤ d 0 := fun i => by
    rw [hd]
    exact Nat.mul_le_mul_right _ (Nat.pow_le_pow_right (by omega) (by omega))
  have HD0 := hid hd0; have HDS := hid hds; have HDI := hid hdi; have HDL := hid hdl
  clear hd hd0 hds hdi hdl
  have HL : Hid (∀ i, lm l i < 4294967296) := hid fun i => lm_BB ht i
  clear hjz hm htz hb h0
  go_enter Tryz.func87, Tryz.ntmps87
  go_wp2
  go_loopw [3, 4] (fun t i wr => ∃ k : Nat, k ≤ j ∧ i = .int .i64 k ∧ t = .int .i64 ((32 * k : Nat) : Int) ∧ wr = w) (fun _ i _ => j - (intOf i).toNat)
  case atStart => exact ⟨0, Nat.zero_le _, rfl, rfl, rfl⟩
  case round =>
    obtain ⟨k, hk, rfl, rfl, rfl⟩ := hrel
    obtain ⟨b, o, rfl, hc⟩ := h.cells k (by omega)
    by_cases hkj : k < j
    · have hz := HJZ.out k hkj
      rw [hz] at hc
      clear hz
      go_wp2
      go_roundw
      case rel => exact ⟨k + 1, by omega, by go_num, by go_num, trivial⟩
      case measure => simp [intOf]; omega
    · obtain rfl : k = j := by omega
      have hlk := HL.out k
      obtain ⟨x, hx⟩ : ∃ x, lm l k = x := ⟨_, rfl⟩
      rw [hx] at hc hj0 hlk
      have HX := hid hx
      clear hx
      have e1 : ((32 * k : Nat) : Int).tdiv 32 = (k : Int) := by rw [Int.tdiv_eq_ediv_of_nonneg (by omega)]; omega
      have e2 : (((32 * k : Nat) : Int) / 32) = (k : Int) := by omega
      have hx2 : ((x : Int) == 0) = false := by simpa using hj0
      go_wp2
      go_loopw [3, 5] (fun t y wr2 => ∃ i : Nat, i ≤ s ∧ t = .int .i64 ((32 * k + i : Nat) : Int) ∧ y = .int .u32 (d i : Nat) ∧ wr2 = wr) (fun t _ _ => 32 * k + s - (intOf t).toNat)
      case atStart => exact ⟨0, Nat.zero_le _, rfl, by rw [HD0.out, HX.out], rfl⟩
      case round =>
        obtain ⟨i, hi, rfl, rfl, rfl⟩ := hrel
        have hdx := HDL.out i
        rw [HD0.out, HX.out] at hdx
        by_cases his : i < s
        · obtain ⟨q1, q2⟩ := HDI.out i his
          obtain ⟨y, hy⟩ : ∃ y, d i = y := ⟨_, rfl⟩
          rw [hy] at q1 q2 hdx ⊢
          have HY := hid q2
          clear q2 hy
          go_wp2
          go_roundw
          case rel => exact ⟨i + 1, by omega, by go_num, by rw [← HY.out]; go_num, trivial⟩
          case measure => simp [intOf]; omega
        · obtain rfl : i = s := by omega
          have q1 := HDS.out
          obtain ⟨y, hy⟩ : ∃ y, d i = y := ⟨_, rfl⟩
          rw [hy] at q1 hdx ⊢
          clear hy
          go_wp2
          go_ret
          exact ⟨rfl, rfl⟩
end Go.Proofs.Wd


namespace Go.Proofs.Wd
open Go.RowKit Lb

theorem rmul_v {W : World} {m : Nat} {v v' : Value} {a b : Nat} (h : LV W m v a) (h' : LV W m v' b) (hm : m ≤ 100000) : Calls Tryz.prog 56 #[v, v'] W (RetN W (a * b)) := by
  obtain ⟨A, n, c, l, rfl, h1, h2, h3, rfl⟩ := h
  obtain ⟨A', n', c', l', rfl, h1', h2', h3', rfl⟩ := h'
  exact (rmul_any A n c l A' n' c' l' W h1 h1' h2 h2' (by omega) (by omega)).mono fun _ _ => RetNat.v
theorem rtrim_v {W : World} {m : Nat} {v : Value} {a : Nat} (h : LV W m v a) (hm : m ≤ 100000) : Calls Tryz.prog 51 #[v] W (RetN W a) := by
  obtain ⟨A, n, c, l, rfl, h1, h2, h3, rfl⟩ := h
  exact (rtrim_any A n c l W h1 h2 (by omega)).mono fun _ _ => RetNat.v
theorem NatV.open {W : World} {v : Value} {x : Nat} (h : NatV W v x) : ∃ A n c, v = .slice A n c ∧ (x = 0 → n = 0) ∧ (0 < x → 0 < n) ∧ n ≤ c ∧ c ≤ 9223372036854775807 ∧ NatV W (.slice A n c) x := by
  obtain ⟨A, n, c, l, rfl, h1, h2⟩ := h
  have h3 := h1.zero_iff; have h4 := h1.pos_iff
  rw [h2.len] at h3 h4
  exact ⟨A, n, c, rfl, h3.1, h4.1, h2.le, h2.cap, ⟨A, n, c, l, rfl, h1, h2⟩⟩

end Go.Proofs.Wd


namespace Lb
theorem odd_of {x k : Nat} (h : TZ x k) : x / 2 ^ k % 2 = 1 ∧ x / 2 ^ k ≤ x ∧ 0 < x / 2 ^ k := by
  have := h.part.2
  exact ⟨this, Nat.div_le_self _ _, Nat.pos_of_ne_zero fun e => by rw [e] at this; simp at this⟩
def Bin (G x y : Nat) : Prop := 0 < y ∧ (x = 0 → y = G) ∧ ∀ i j, TZ x i → TZ y j → Nat.gcd (x / 2 ^ i) (y / 2 ^ j) = G
theorem Bin.start {a b i j : Nat} (hi : TZ a i) (hj : TZ b j) : Bin (Nat.gcd (a / 2 ^ i) (b / 2 ^ j)) a b :=
  ⟨hj.pos, fun e => by have := hi.pos; omega, fun i' j' h1 h2 => by rw [h1.unique hi, h2.unique hj]⟩
theorem Bin.turn {G x y : Nat} (hx : x % 2 = 1) (hy : y % 2 = 1) (hg : Nat.gcd x y = G) (hle : y ≤ x) : Bin G (x - y) y := by
  refine ⟨by omega, fun e => ?_, fun i j h1 h2 => ?_⟩
  · have : x = y := by omega
    rw [← hg, this, Nat.gcd_self]
  · have hj : j = 0 := h2.unique (TZ.odd hy)
    rw [hj, Nat.pow_zero, Nat.div_one, Nat.gcd_comm, TZ.gcd_odd hy h1, Nat.gcd_comm, gcd_less hle, hg]
end Lb
namespace Go.Proofs.Wd
open Go.RowKit Lb

theorem rdown_v {W : World} {m : Nat} {A : Option Addr} {n c : Nat} {x q t : Nat} (h : NatV W (.slice A n c) x) (hx : x < BB ^ m) (hm : m ≤ 1000) (htt : t ≤ 31) (hq : q < n) : Calls Tryz.prog 88 #[.slice A n c, .int .i64 ((32 * q + t : Nat) : Int)] W (RetN W (x / 2 ^ (32 * q + t))) := by
  obtain ⟨A1, n1, c1, l1, e1, h1, h2⟩ := h
  cases e1
  have hn : n ≤ m := is_len h1 h2 hx
  have := rdown_any A n c l1 q t W h2 h1.lt htt (by omega) (by omega) (by omega)
  rw [h1.val] at this
  exact this.mono fun _ _ => RetNat.v
theorem rup_v {W : World} {m : Nat} {A : Option Addr} {n c : Nat} {x q t : Nat} (h : LV W m (.slice A n c) x) (hm : m ≤ 1000) (htt : t ≤ 31) (hq : q ≤ 1000) : Calls Tryz.prog 13 #[.slice A n c, .int .i64 ((32 * q + t : Nat) : Int)] W (RetN W (x * 2 ^ (32 * q + t))) := by
  obtain ⟨A1, n1, c1, l1, e1, h1, h2, h3, rfl⟩ := h
  cases e1
  exact (rup_any A n c l1 q t W h1 h2 htt (by omega) (by omega)).mono fun _ _ => RetNat.v
def RetSb (w : World) (x : Nat) : Ending → World → Prop := fun e w' => ∃ v, e = .returned (.tuple #[v, .int .i64 0]) ∧ NatV w' v x ∧ Below w.heap.size w w'
theorem rsub_v {W : World} {m : Nat} {v v' : Value} {a b : Nat} (h : LV W m v a) (h' : LV W m v' b) (hm : m ≤ 1000) (hab : b ≤ a) : Calls Tryz.prog 90 #[v, v'] W (RetSb W (a - b)) := by
  obtain ⟨A, n, c, l, rfl, h1, h2, h3, rfl⟩ := h
  obtain ⟨A', n', c', l', rfl, h1', h2', h3', rfl⟩ := h'
  refine (rsub_any A n c l A' n' c' l' W h1 h1' h2 h2' hab (by omega)).mono ?_
  rintro e w' ⟨A1, n1, c1, l1, rfl, i1, r1, hb⟩
  exact ⟨_, rfl, ⟨A1, n1, c1, l1, rfl, i1, r1⟩, hb⟩
theorem twos_v {W : World} {m : Nat} {A : Option Addr} {n c : Nat} {x : Nat} (h : NatV W (.slice A n c) x) (hx : x < BB ^ m) (hm : m ≤ 1000) (h0 : 0 < x) :
    ∃ q t : Nat, TZ x (32 * q + t) ∧ t ≤ 31 ∧ q < n ∧ n ≤ m ∧ Calls Tryz.prog 87 #[.slice A n c] W fun e w' => e = .returned (.int .i64 ((32 * q + t : Nat) : Int)) ∧ w' = W := by
  obtain ⟨A1, n1, c1, l1, e1, h1, h2⟩ := h
  cases e1
  have hn : n ≤ m := is_len h1 h2 hx
  obtain ⟨q, t, k1, k2, k3, k4⟩ := twos_any A n c l1 W h2 h1.lt (by rw [h1.val]; exact h0) (by omega)
  rw [h1.val] at k1
  exact ⟨q, t, k1, k2, k3, hn, k4⟩
theorem NatV.rdv {W : World} {v : Value} {x : Nat} (h : NatV W v x) : rdv W v = x := by
  obtain ⟨A1, n1, c1, l1, rfl, h1, h2⟩ := h
  exact h2.rdv h1

def RgI (w : World) (m G : Nat) (u v : Value) (W : World) : Prop := ∃ A n c A' n' c' x y, u = .slice A n c ∧ v = .slice A' n' c' ∧ NatV W (.slice A n c) x ∧ NatV W (.slice A' n' c') y ∧ x < BB ^ m ∧ y < BB ^ m ∧ Bin G x y ∧ Below w.heap.size w W

set_option maxHeartbeats 2000000 in
theorem r4gcd_v {W : World} {m : Nat} {v v' : Value} {a b : Nat} (h : LV W m v a) (h' : LV W m v' b) (hm : m ≤ 1000) : Calls Tryz.prog 61 #[v, v'] W (RetN W (Nat.gcd a b)) := by
  have hla := h.bound; have hlb := h'.bound
  obtain ⟨A0, n0, c0, rfl, -, k1, k2, h⟩ := h.open
  obtain ⟨B0, m0, d0, rfl, -, k3, k4, h'⟩ := h'.open
  go_enter Tryz.func61, Tryz.ntmps61
  go_wp2_with fail
  refine (rtrim_v h (by omega)).mono ?_
  rintro e w1 ⟨va, rfl, ha, b1⟩
  obtain ⟨A, n, c, rfl, za, pa, ia, ja, ha⟩ := ha.open
  go_wp2_with fail
  refine (rtrim_v (h'.below b1) (by omega)).mono ?_
  rintro e w2 ⟨vb, rfl, hb, b2⟩
  obtain ⟨A', n', c', rfl, zb, pb, ib, jb, hb⟩ := hb.open
  have b02 := b1.trans (b2.mono b1.size)
  have ha2 := ha.below b2
  clear h h' ha b1 b2 k1 k2 k3 k4
  by_cases h0 : a = 0 ∨ b = 0
  · have hg : Nat.gcd a b = a + b := by
      rcases h0 with e | e
      · rw [e]; simp
      · rw [e]; simp
    have h00 : n = 0 ∨ (0 < n ∧ n' = 0) := by
      rcases Nat.eq_zero_or_pos n with e | e
      · exact .inl e
      · refine .inr ⟨e, zb (h0.resolve_left fun e' => ?_)⟩
        have := za e'; omega
    have HG := hid hg
    clear za pa zb pb h0 hg
    have ad := radd2_v (ha2.lv hla) (hb.lv hlb) (by omega) 23
    have bS : Below w2.heap.size w2 (w2.alloc (.cells #[.slice A n c, .slice A' n' c'] 23)) := (Below.refl _ w2).alloc (Nat.le_refl _) _
    have HLA := hid hla; have HLB := hid hlb
    clear hla hlb
    rcases h00 with rfl | ⟨e1, rfl⟩
    all_goals
      go_wp2_with fail
      refine ad.mono ?_
      rintro e w4 ⟨vs, rfl, hs, b4⟩
      go_wp2_with fail
      go_ret
      exact ⟨vs, rfl, by rw [HG.out]; exact hs, b02.trans ((bS.trans (b4.mono bS.size)).mono b02.size)⟩
  · have hn0 : 0 < n := pa (by omega)
    have hn0' : 0 < n' := pb (by omega)
    have hnb : ((n : Int) == 0) = false := by simp; omega
    have hnb' : ((n' : Int) == 0) = false := by simp; omega
    obtain ⟨q, t, hz, ht, hq, hnm, htw⟩ := twos_v ha2 hla hm (by omega)
    obtain ⟨q', t', hz', ht', hq', hnm', htw'⟩ := twos_v hb hlb hm (by omega)
    have hgcd := hz.gcd hz'
    have hbin := Bin.start hz hz'
    have hG0 : Nat.gcd (a / 2 ^ (32 * q + t)) (b / 2 ^ (32 * q' + t')) < BB ^ m := gcd_lt (Nat.lt_of_le_of_lt (Nat.div_le_self _ _) hla) (Nat.lt_of_le_of_lt (Nat.div_le_self _ _) hlb)
    obtain ⟨G, hG⟩ : ∃ G, Nat.gcd (a / 2 ^ (32 * q + t)) (b / 2 ^ (32 * q' + t')) = G := ⟨_, rfl⟩
    rw [hG] at hgcd hbin hG0
    obtain ⟨p, s, hs, hps, hpq⟩ : ∃ p s : Nat, s ≤ 31 ∧ p ≤ 1000 ∧ min (32 * q + t) (32 * q' + t') = 32 * p + s := by
      rcases Nat.le_total (32 * q + t) (32 * q' + t') with e | e
      · exact ⟨q, t, ht, by omega, by omega⟩
      · exact ⟨q', t', ht', by omega, by omega⟩
    rw [hpq] at hgcd
    have hmin : min (((32 * q + t : Nat) : Int)) (((32 * q' + t' : Nat) : Int)) = ((32 * p + s : Nat) : Int) := by omega
    have HGC := hid hgcd; have HBI := hid hbin; have HG0 := hid hG0
    obtain ⟨k, hk⟩ : ∃ k, 32 * q + t = k := ⟨_, rfl⟩
    obtain ⟨k', hk'⟩ : ∃ k, 32 * q' + t' = k := ⟨_, rfl⟩
    rw [hk] at htw hmin
    rw [hk'] at htw' hmin
    obtain ⟨K, hK⟩ : ∃ K, 32 * p + s = K := ⟨_, rfl⟩
    rw [hK] at hmin
    have HK := hid hK
    have hK2 : K ≤ 40000 := by omega
    have hk2 : k ≤ 40000 := by omega
    have hk2' : k' ≤ 40000 := by omega
    have HLA := hid hla; have HLB := hid hlb
    clear hgcd hbin hG0 hz hz' hG hpq hk hk' hK za pa zb pb hq hq' ht ht' hnm hnm' h0 hla hlb
    go_wp2_with fail
    refine htw.mono ?_
    rintro e w3 ⟨rfl, rfl⟩
    go_wp2_with fail
    refine htw'.mono ?_
    rintro e w3 ⟨rfl, rfl⟩
    go_wp2
    go_loopw [0, 1] (RgI W m G) (fun u v wr => rdv wr u + rdv wr v)
    case atStart => exact ⟨A, n, c, A', n', c', a, b, rfl, rfl, ha2, hb, HLA.out, HLB.out, HBI.out, b02⟩
    case round =>
      clear ha2 hb b02 hn0 hn0' hnb hnb' htw htw' ia ja ib jb hmin
      obtain ⟨A1, n1, c1, A2, n2, c2, x, y, rfl, rfl, hx, hy, hxl, hyl, hbn, hB⟩ := hrel
      obtain ⟨_, _, _, e1, zx, px, ix, jx, _⟩ := hx.open
      cases e1
      obtain ⟨_, _, _, e1, zy, py, iy, jy, _⟩ := hy.open
      cases e1
      have hy0 := hbn.1
      have HBN := hid hbn
      have HXL := hid hxl; have HYL := hid hyl
      rcases Nat.eq_zero_or_pos n1 with h0 | h0
      · have hx0 : x = 0 := by
          rcases Nat.eq_zero_or_pos x with e | e
          · exact e
          · have := px e; omega
        have hyG := hbn.2.1 hx0
        have HYG := hid hyG
        have hup := rup_v (q := p) (t := s) (hy.lv hyl) hm hs hps
        rw [HK.out] at hup
        subst h0
        clear hbn hxl hyl hx0 hyG zx px zy py
        go_wp2_with fail
        refine hup.mono ?_
        rintro e w5 ⟨v5, rfl, hv5, hb5⟩
        go_wp2_with fail
        go_ret
        exact ⟨v5, rfl, by rw [HGC.out, HK.out, ← HYG.out, Nat.mul_comm]; exact hv5, hB.trans (hb5.mono hB.size)⟩
      · have hx0 : 0 < x := Nat.pos_of_ne_zero fun e => by have := zx e; omega
        obtain ⟨q1, t1, z1, ht1, hq1, hnm1, htw1⟩ := twos_v hx hxl hm hx0
        have hd1 := rdown_v hx hxl hm ht1 hq1
        obtain ⟨o1, o2, o3⟩ := odd_of z1
        obtain ⟨k1, hk1⟩ : ∃ k, 32 * q1 + t1 = k := ⟨_, rfl⟩
        have hk1l : k1 ≤ 40000 := by omega
        rw [hk1] at htw1 hd1 z1 o1 o2 o3
        have Z1 := hid z1
        obtain ⟨X, hX⟩ : ∃ X, x / 2 ^ k1 = X := ⟨_, rfl⟩
        have HX := hid hX
        rw [hX] at hd1 o1 o2 o3
        clear z1 hX hk1 ht1 hq1 hnm1 hbn zx px zy py
        have HO1 := hid o1
        have hrx := hx.rdv; have hry := hy.rdv
        have HRX := hid hrx; have HRY := hid hry
        clear hrx hry o1
        go_wp2_with fail
        refine htw1.mono ?_
        rintro e w5 ⟨rfl, rfl⟩
        go_wp2_with fail
        refine hd1.mono ?_
        rintro e w6 ⟨v6, rfl, h6, b6⟩
        obtain ⟨A6, n6, c6, rfl, z6, p6, i6, j6, h6⟩ := h6.open
        have hy6 := hy.below b6
        obtain ⟨q2, t2, z2, ht2, hq2, hnm2, htw2⟩ := twos_v hy6 hyl hm hy0
        have hd2 := rdown_v hy6 hyl hm ht2 hq2
        obtain ⟨o4, o5, o6⟩ := odd_of z2
        obtain ⟨k2, hk2⟩ : ∃ k, 32 * q2 + t2 = k := ⟨_, rfl⟩
        have hk2l : k2 ≤ 40000 := by omega
        rw [hk2] at htw2 hd2 z2 o4 o5 o6
        have Z2 := hid z2
        obtain ⟨Y, hY⟩ : ∃ Y, y / 2 ^ k2 = Y := ⟨_, rfl⟩
        have HY := hid hY
        rw [hY] at hd2 o4 o5 o6
        clear z2 hY hk2 ht2 hq2 hnm2 htw1 hd1 z6 p6
        have HO4 := hid o4
        clear o4
        go_wp2_with fail
        refine htw2.mono ?_
        rintro e w7 ⟨rfl, rfl⟩
        go_wp2_with fail
        refine hd2.mono ?_
        rintro e w8 ⟨v8, rfl, h8, b8⟩
        obtain ⟨A8, n8, c8, rfl, z8, p8, i8, j8, h8⟩ := h8.open
        have h68 := h6.below b8
        have b68 := b6.trans (b8.mono b6.size)
        have hB8 := hB.trans (b68.mono hB.size)
        have hXl : X < BB ^ m := Nat.lt_of_le_of_lt o2 HXL.out
        have hYl : Y < BB ^ m := Nat.lt_of_le_of_lt o5 HYL.out
        have hXY : Nat.gcd X Y = G := by rw [← HX.out, ← HY.out]; exact HBN.out.2.2 _ _ Z1.out Z2.out
        have HXY := hid hXY
        obtain ⟨cz, hcz⟩ : ∃ cz, cmpOf X Y = cz := ⟨_, rfl⟩
        have hc1 := rcmp_v (h68.lv hXl) (h8.lv hYl)
        have hcl : cz < 0 ↔ X < Y := by
          rw [← hcz]
          unfold cmpOf
          split
          · exact ⟨fun _ => by assumption, fun _ => by omega⟩
          · split
            · exact ⟨fun h => by omega, fun h => by omega⟩
            · exact ⟨fun h => by omega, fun h => by omega⟩
        rw [hcz] at hc1
        clear htw2 hd2 z8 p8 h6 hy6 hx hy hXY hcz hxl hyl
        have HXl := hid hXl; have HYl := hid hYl
        clear hXl hYl
        rcases Nat.lt_or_ge X Y with hlt | hge
        · have hcz : cz < 0 := hcl.2 hlt
          have hsb := rsub_v (h8.lv HYl.out) (h68.lv HXl.out) hm (Nat.le_of_lt hlt)
          have hbt := Bin.turn (G := G) HO4.out HO1.out (by rw [Nat.gcd_comm]; exact HXY.out) (Nat.le_of_lt hlt)
          have HBT := hid hbt
          clear hbt hcl
          go_wp2_with fail
          refine hc1.mono ?_
          rintro e w9 ⟨rfl, rfl⟩
          go_wp2_with fail
          refine hsb.mono ?_
          rintro e w10 ⟨v10, rfl, h10, b10⟩
          obtain ⟨A10, n10, c10, rfl, z10, p10, i10, j10, h10⟩ := h10.open
          clear z10 p10
          go_wp2_with fail
          refine ⟨⟨A10, n10, c10, A6, n6, c6, Y - X, X, rfl, rfl, h10, h68.below b10, Nat.lt_of_le_of_lt (Nat.sub_le _ _) HYl.out, HXl.out, HBT.out, hB8.trans (b10.mono hB8.size)⟩, ?_⟩
          show rdv _ _ + rdv _ _ < rdv _ _ + rdv _ _
          rw [h10.rdv, (h68.below b10).rdv, HRX.out, HRY.out]
          omega
        · have hcz : ¬ cz < 0 := fun e => by have := hcl.1 e; omega
          have hsb := rsub_v (h68.lv HXl.out) (h8.lv HYl.out) hm hge
          have hbt := Bin.turn (G := G) HO1.out HO4.out HXY.out hge
          have HBT := hid hbt
          clear hbt hcl
          go_wp2_with fail
          refine hc1.mono ?_
          rintro e w9 ⟨rfl, rfl⟩
          go_wp2_with fail
          refine hsb.mono ?_
          rintro e w10 ⟨v10, rfl, h10, b10⟩
          obtain ⟨A10, n10, c10, rfl, z10, p10, i10, j10, h10⟩ := h10.open
          clear z10 p10
          go_wp2_with fail
          refine ⟨⟨A10, n10, c10, A8, n8, c8, X - Y, Y, rfl, rfl, h10, h8.below b10, Nat.lt_of_le_of_lt (Nat.sub_le _ _) HXl.out, HYl.out, HBT.out, hB8.trans (b10.mono hB8.size)⟩, ?_⟩
          show rdv _ _ + rdv _ _ < rdv _ _ + rdv _ _
          rw [h10.rdv, (h8.below b10).rdv, HRX.out, HRY.out]
          omega
end Go.Proofs.Wd


namespace Go.Proofs.Wd
open Go.RowKit Lb

theorem bNatD (d : Int) : sliceCells Tryz.prog 23 1 [(0, .int .u32 d)] = some (38, #[.int .u32 d]) := by kernel_rfl
theorem sl_limb {u : Value} {W : World} (d : Nat) (h0 : 0 < d) (h1 : d < 4294967296) (hu : u = .int .u32 (d : Nat)) : ∃ e cs, sliceCells Tryz.prog 23 1 [(0, u)] = some (e, cs) ∧ NatV (W.alloc (.cells cs e)) (.slice (some ⟨W.heap.size, 0, none⟩) 1 1) d := by
  subst hu
  refine ⟨_, _, bNatD d, _, 1, 1, [d], rfl, ⟨fun y hy => by simp at hy; subst hy; exact h1, fun hn => by simp; omega, ?_⟩, Rd.new W [d] _ _ (by simp [u32s]) (by simp)⟩
  show sm (lm [d]) 1 = d
  simp [sm, lm]
theorem lv_nil {v : Value} {W : World} {m : Nat} (h : v = .slice none 0 0) : LV W m v 0 := ⟨none, 0, 0, [], h, Rd.nil_ W, Lt_nil, Nat.zero_le _, rfl⟩
theorem bRatN0 (s : Bool) (A : Option Addr) (n c : Nat) : Tryz.prog.built 27 [(0, .agg #[.bool s, .slice A n c])] = some #[.bool s, .slice A n c, .slice none 0 0] := by kernel_rfl
theorem b_rat0 {u : Value} {W : World} {m : Nat} {k : Int} (hu : UV W m u k) : ∃ cells, Tryz.prog.built 27 [(0, u)] = some cells ∧ RVp m 0 (.agg cells) W := by
  obtain ⟨s, A, n, c, l, rfl, h1⟩ := id hu
  exact ⟨_, bRatN0 _ _ _ _, k, 0, ⟨_, _, _, rfl, hu, lv_nil rfl⟩, Rat.mkRat_zero k⟩
theorem ret_cast {P : Program} {f : FuncId} {args : Array Value} {W : World} {g g' : SF} (h : Calls P f args W (Ret W g)) (e : g = g') : Calls P f args W (Ret W g') := e ▸ h

set_option maxRecDepth 100000 in
theorem l7by_t {W : World} {q : Rat} (h : -9223372036854775808 ≤ q.num ∧ q.num ≤ 9223372036854775807) (h' : q.den < 4294967296) : Calls Tryz.prog 41 #[.int .i64 q.num, .int .u32 (q.den : Nat)] W (Ret W (fQN q).toSF) := by
  refine run_st [(UF.eq (.int .i64 q.num)).toSF, (UF.eq (.int .u32 (q.den : Nat))).toSF] Tryz.func41 rfl (by kernel_rfl) ⟨rfl, rfl, trivial⟩ fun a s => ?_
  refine wpIn_seq ?_
  refine region_go 0 [] hmix s (by kernel_rfl)
    obs_nil fun a w1 s => ?_
  refine t_alloc (CU.len 3) (cs := [.bool false, .slice none 0 0, .slice none 0 0]) (by kernel_rfl) rfl s (by kernel_rfl) (fun W => rfl) rfl fun b4 a w s => ?_
  refine tail_end rfl ?_
  refine wpIn_seq ?_
  refine region_go 5 ((5, .s ((UF.eq (.int .i64 (q.num))).toSF)) :: (6, .s ((fNV (q.num)).toSF)) :: (7, .s ((UF.eq (.int .u32 (q.den : Nat))).toSF)) :: (8, .s ((fNat (q.den)).toSF)) :: (9, .u (fQN (q))) :: []) hmix s (by kernel_rfl)
    (obs_cons (ok_move) <| obs_cons (ok_call1 wide_wide en_14 (fun u0 W hb (h0 : u0 = .int .i64 (q.num)) => (by rw [h0]; exact r5of_v _ h))) <| obs_cons (ok_move) <| obs_cons (ok_slice1 (fun u W (hu : u = .int .u32 (q.den : Nat)) => sl_limb q.den q.den_pos h' hu)) <| obs_cons (ok_build2 (fun u v W (hu : NV W u q.num) (hv : NatV W v q.den) => b_ratN (q := q) hu hv)) <| obs_nil) fun a w2 s => ?_
  refine t_store (CU.agg (fQN (q))) ((fQN (q)).toSF) rfl s (by kernel_rfl) rfl rfl rfl (fun _ _ h => h) (fun _ _ h => h) (qn_store) fun a w s => ?_
  refine tail_end rfl ?_
  refine wpIn_ret ?_
  exact StS.resC s (CU.agg (fQN q)) rfl (by kernel_rfl) rfl rfl (qn_len _) (fun cs W h => h)

theorem l7by_w {W : World} {u v : Value} (q : Rat) (n : Int) (d : Nat) (hn : q.num = n) (hd : q.den = d) (hu : u = .int .i64 n) (hv : v = .int .u32 (d : Nat)) (h : -9223372036854775808 ≤ n ∧ n ≤ 9223372036854775807) (h' : d < 4294967296) : Calls Tryz.prog 41 #[u, v] W (Ret W (fQN q).toSF) := by
  subst hn hd hu hv
  exact l7by_t h h'
theorem r5of_w {W : World} {u : Value} (k : Int) (hu : u = .int .i64 k) (h : -9223372036854775808 ≤ k ∧ k ≤ 9223372036854775807) : Calls Tryz.prog 14 #[u] W (RetV W k) := by
  subst hu
  exact r5of_v k h
theorem qb1 {q : Rat} (h : q.num.natAbs < 4294967296) (h' : q.den < 4294967296) : QB q 1 := ⟨by unfold Bd BB; omega, by unfold BB; omega⟩

set_option maxRecDepth 100000 in
theorem l7wakes_t {W : World} (hT : Tab W) : Calls Tryz.prog 6 #[] W (Ret W (fB true).toSF) := by
  refine run_st [] Tryz.func6 rfl (by kernel_rfl) trivial fun a s => ?_
  refine wpIn_seq ?_
  refine region_go 1 ((0, .u (UF.eq (.bool false))) :: []) hmix s (by kernel_rfl)
    (obs_cons (ok_assign) <| obs_nil) fun a w1 s => ?_
  refine tail_end rfl ?_
  refine wpIn_seq ?_
  refine region_go 6 ((7, .s ((fNV ((2))).toSF)) :: (8, .s ((fNat (4)).toSF)) :: (9, .s ((fTup2 (fQN ((mkRat (1) 2))) (UF.eq (.int .i64 (0)))).toSF)) :: (6, .s ((fTup2 (fQN ((mkRat (1) 2))) (UF.eq (.int .i64 (0)))).toSF)) :: (10, .u (fQN ((mkRat (1) 2)))) :: (11, .u (UF.eq (.int .i64 (0)))) :: []) hmix s (by kernel_rfl)
    (obs_cons (ok_call1 wide_wide en_14 (fun u0 W hb (h0 : u0 = .int .i64 (2)) => r5of_w (2) h0 (by decide))) <| obs_cons (ok_slice1 (fun u W (hu : u = .int .u32 4) => sl_limb 4 (by decide) (by decide) hu)) <| obs_cons (ok_call2 wide_wide en_20 (fun u0 u1 W hb (h0 : NV W u0 ((2))) (h1 : NatV W u1 (4)) => (ret_cast (rNew_v (m := 1) (NV.uv' h0 (by unfold Bd BB; decide)) (NatV.lv h1 (by unfold BB; decide)) (by omega) (hT.below (s.up hb))) (congrArg UF.toSF (congr (congrArg fTup2 (congrArg fQN (show mkRat 2 4 = mkRat 1 2 by decide))) (congrArg fI (by decide : (if 4 = 0 then 30 else 0 : Int) = 0))))))) <| obs_cons (ok_move) <| obs_cons (ok_ext20 (A := (fQN ((mkRat (1) 2))).toSF) (B := (UF.eq (.int .i64 (0))).toSF) (fun _ _ h => h)) <| obs_cons (ok_ext21 (A := (fQN ((mkRat (1) 2))).toSF) (B := (UF.eq (.int .i64 (0))).toSF) (fun _ _ h => h)) <| obs_nil) fun a w2 s => ?_
  refine t_alloc (CU.len 3) (cs := [.bool false, .slice none 0 0, .slice none 0 0]) (by kernel_rfl) rfl s (by kernel_rfl) (fun W => rfl) rfl fun b1 a w s => ?_
  refine t_store (CU.agg (fQN ((mkRat (1) 2)))) ((fQN ((mkRat (1) 2))).toSF) rfl s (by kernel_rfl) rfl rfl rfl (fun _ _ h => h) (fun _ _ h => h) (qn_store) fun a w s => ?_
  refine t_set (UF.eq (.int .i64 (0))) rfl s (by kernel_rfl) (fun _ _ h => h) fun a w s => ?_
  refine tail_end rfl ?_
  refine wpIn_seq ?_
  refine region_go 5 ((13, .s ((fNV ((2))).toSF)) :: (14, .s ((fTup2 (fQN ((0 : Rat))) (UF.eq (.int .i64 (30)))).toSF)) :: (12, .s ((fTup2 (fQN ((0 : Rat))) (UF.eq (.int .i64 (30)))).toSF)) :: (15, .u (fQN ((0 : Rat)))) :: (16, .u (UF.eq (.int .i64 (30)))) :: []) hmix s (by kernel_rfl)
    (obs_cons (ok_call1 wide_wide en_14 (fun u0 W hb (h0 : u0 = .int .i64 (2)) => r5of_w (2) h0 (by decide))) <| obs_cons (ok_call2 wide_wide en_20 (fun u0 u1 W hb (h0 : NV W u0 ((2))) (h1 : u1 = .slice none 0 0) => (ret_cast (rNew_v (m := 1) (NV.uv' h0 (by unfold Bd BB; decide)) (lv_nil h1) (by omega) (hT.below (s.up hb))) (congrArg UF.toSF (congr (congrArg fTup2 (congrArg fQN (show mkRat 2 0 = 0 by decide))) (congrArg fI (by decide : (if 0 = 0 then 30 else 0 : Int) = 30))))))) <| obs_cons (ok_move) <| obs_cons (ok_ext20 (A := (fQN ((0 : Rat))).toSF) (B := (UF.eq (.int .i64 (30))).toSF) (fun _ _ h => h)) <| obs_cons (ok_ext21 (A := (fQN ((0 : Rat))).toSF) (B := (UF.eq (.int .i64 (30))).toSF) (fun _ _ h => h)) <| obs_nil) fun a w3 s => ?_
  refine t_alloc (CU.len 3) (cs := [.bool false, .slice none 0 0, .slice none 0 0]) (by kernel_rfl) rfl s (by kernel_rfl) (fun W => rfl) rfl fun b3 a w s => ?_
  refine t_store (CU.agg (fQN ((0 : Rat)))) ((fQN ((0 : Rat))).toSF) rfl s (by kernel_rfl) rfl rfl rfl (fun _ _ h => h) (fun _ _ h => h) (qn_store) fun a w s => ?_
  refine t_set (UF.eq (.int .i64 (30))) rfl s (by kernel_rfl) (fun _ _ h => h) fun a w s => ?_
  refine tail_end rfl ?_
  refine wpIn_seq ?_
  refine region_go 3 ((17, .s ((fQN ((mkRat (1) 2))).toSF)) :: (18, .s ((fQN ((mkRat (1) 3))).toSF)) :: (19, .u (fQN ((mkRat (5) 12)))) :: []) hmix s (by kernel_rfl)
    (obs_cons (ok_call2 wide_wide en_41 (fun u0 u1 W hb (h0 : u0 = .int .i64 (1)) (h1 : u1 = .int .u32 (2)) => l7by_w (mkRat (1) 2) (1) 2 (by decide) (by decide) h0 h1 (by decide) (by decide))) <| obs_cons (ok_call2 wide_wide en_41 (fun u0 u1 W hb (h0 : u0 = .int .i64 (1)) (h1 : u1 = .int .u32 (3)) => l7by_w (mkRat (1) 3) (1) 3 (by decide) (by decide) h0 h1 (by decide) (by decide))) <| obs_cons (ok_call2 wide_wide en_37 (fun u0 u1 W hb (h0 : QNp ((mkRat (1) 2)) u0 W) (h1 : QNp ((mkRat (1) 3)) u1 W) => (ret_cast (rMid_q (m := 1) (QNp.rv h0 (qb1 (by decide) (by decide))) (QNp.rv h1 (qb1 (by decide) (by decide))) (by omega) (by omega) (hT.below (s.up hb))) (congrArg (fun q => (fQN q).toSF) (show (mkRat 1 2 + mkRat 1 3) / 2 = mkRat 5 12 by decide +kernel))))) <| obs_nil) fun a w4 s => ?_
  refine t_alloc (CU.len 3) (cs := [.bool false, .slice none 0 0, .slice none 0 0]) (by kernel_rfl) rfl s (by kernel_rfl) (fun W => rfl) rfl fun b5 a w s => ?_
  refine t_store (CU.agg (fQN ((mkRat (5) 12)))) ((fQN ((mkRat (5) 12))).toSF) rfl s (by kernel_rfl) rfl rfl rfl (fun _ _ h => h) (fun _ _ h => h) (qn_store) fun a w s => ?_
  refine tail_end rfl ?_
  refine wpIn_seq ?_
  replace s := s.drop [0]
  refine region_go 29 ((20, .s ((UF.eq (.int .i64 (0))).toSF)) :: (21, .s ((UF.eq (.bool true)).toSF)) :: (22, .s ((UF.eq (.bool true)).toSF)) :: (23, .s ((fQN ((mkRat (1) 2))).toSF)) :: (24, .s ((fQN ((mkRat (1) 2))).toSF)) :: (25, .s ((UF.eq (.bool true)).toSF)) :: (26, .s ((UF.eq (.bool true)).toSF)) :: (27, .s ((UF.eq (.bool true)).toSF)) :: (28, .s ((UF.eq (.int .i64 (30))).toSF)) :: (29, .s ((UF.eq (.bool true)).toSF)) :: (30, .s ((UF.eq (.bool true)).toSF)) :: (31, .s ((UF.eq (.bool true)).toSF)) :: (32, .s ((fQN ((mkRat (-1) 2))).toSF)) :: (33, .s ((fNV ((-1))).toSF)) :: (34, .s ((fNV ((-1))).toSF)) :: (35, .s ((UF.eq (.bool true)).toSF)) :: (36, .s ((UF.eq (.bool true)).toSF)) :: (37, .s ((UF.eq (.bool true)).toSF)) :: (38, .s ((fQN ((mkRat (5) 12))).toSF)) :: (39, .s ((fQN ((mkRat (5) 12))).toSF)) :: (40, .s ((UF.eq (.bool true)).toSF)) :: (41, .s ((UF.eq (.bool true)).toSF)) :: (42, .s ((UF.eq (.bool true)).toSF)) :: (43, .s ((fNV ((3))).toSF)) :: (44, .s ((fRV (1) ((0 : Rat))).toSF)) :: (45, .s ((UF.eq (.int .i64 (0))).toSF)) :: (46, .s ((UF.eq (.bool true)).toSF)) :: (47, .s ((UF.eq (.bool true)).toSF)) :: (0, .u (UF.eq (.bool true))) :: []) hmix s (by kernel_rfl)
    (obs_cons (ok_move) <| obs_cons (ok_cmpI .i64 (0) (0) (true) (fun _ _ h => h) (fun _ _ h => h) (by decide) rfl) <| obs_cons (ok_move) <| obs_cons (ok_guard 22 true (by kernel_rfl) (fun _ _ h => h) (fun _ => ok_ldW (f := fQN ((mkRat (1) 2))) 3 (by kernel_rfl) (hz := qn_len _)) (fun e => absurd rfl e)) <| obs_cons (ok_guard 22 true (by kernel_rfl) (fun _ _ h => h) (fun _ => ok_call2 wide_wide en_41 (fun u0 u1 W hb (h0 : u0 = .int .i64 (1)) (h1 : u1 = .int .u32 (2)) => l7by_w (mkRat (1) 2) (1) 2 (by decide) (by decide) h0 h1 (by decide) (by decide))) (fun e => absurd rfl e)) <| obs_cons (ok_guard 22 true (by kernel_rfl) (fun _ _ h => h) (fun _ => ok_call2 wide_wide en_42 (fun u0 u1 W hb (h0 : QNp ((mkRat (1) 2)) u0 W) (h1 : QNp ((mkRat (1) 2)) u1 W) => r7told_t h0 h1)) (fun e => absurd rfl e)) <| obs_cons (ok_pick true (fun _ _ h => h) (fun _ _ _ h => h) (fun e => by cases e)) <| obs_cons (ok_move) <| obs_cons (ok_guard 27 true (by kernel_rfl) (fun _ _ h => h) (fun _ => ok_move) (fun e => absurd rfl e)) <| obs_cons (ok_guard 27 true (by kernel_rfl) (fun _ _ h => h) (fun _ => ok_cmpI .i64 (30) (30) (true) (fun _ _ h => h) (fun _ _ h => h) (by decide) rfl) (fun e => absurd rfl e)) <| obs_cons (ok_pick true (fun _ _ h => h) (fun _ _ _ h => h) (fun e => by cases e)) <| obs_cons (ok_move) <| obs_cons (ok_guard 31 true (by kernel_rfl) (fun _ _ h => h) (fun _ => ok_call2 wide_wide en_41 (fun u0 u1 W hb (h0 : u0 = .int .i64 (-1)) (h1 : u1 = .int .u32 (2)) => l7by_w (mkRat (-1) 2) (-1) 2 (by decide) (by decide) h0 h1 (by decide) (by decide))) (fun e => absurd rfl e)) <| obs_cons (ok_guard 31 true (by kernel_rfl) (fun _ _ h => h) (fun _ => ok_call1 wide_wide en_40 (fun u0 W hb (h0 : QNp ((mkRat (-1) 2)) u0 W) => (ret_cast (rFloor_q (m := 1) (QNp.rv h0 (qb1 (by decide) (by decide))) (by omega) (by omega) (hT.below (s.up hb))) (congrArg (fun k => (fNV k).toSF) (show (mkRat (-1) 2).num / ((mkRat (-1) 2).den : Int) = -1 by decide))))) (fun e => absurd rfl e)) <| obs_cons (ok_guard 31 true (by kernel_rfl) (fun _ _ h => h) (fun _ => ok_call1 wide_wide en_14 (fun u0 W hb (h0 : u0 = .int .i64 (-1)) => r5of_w (-1) h0 (by decide))) (fun e => absurd rfl e)) <| obs_cons (ok_guard 31 true (by kernel_rfl) (fun _ _ h => h) (fun _ => ok_call2 wide_wide en_39 (fun u0 u1 W hb (h0 : NV W u0 ((-1))) (h1 : NV W u1 ((-1))) => r5told_t h0 h1)) (fun e => absurd rfl e)) <| obs_cons (ok_pick true (fun _ _ h => h) (fun _ _ _ h => h) (fun e => by cases e)) <| obs_cons (ok_move) <| obs_cons (ok_guard 37 true (by kernel_rfl) (fun _ _ h => h) (fun _ => ok_ldW (f := fQN ((mkRat (5) 12))) 3 (by kernel_rfl) (hz := qn_len _)) (fun e => absurd rfl e)) <| obs_cons (ok_guard 37 true (by kernel_rfl) (fun _ _ h => h) (fun _ => ok_call2 wide_wide en_41 (fun u0 u1 W hb (h0 : u0 = .int .i64 (5)) (h1 : u1 = .int .u32 (12)) => l7by_w (mkRat (5) 12) (5) 12 (by decide) (by decide) h0 h1 (by decide) (by decide))) (fun e => absurd rfl e)) <| obs_cons (ok_guard 37 true (by kernel_rfl) (fun _ _ h => h) (fun _ => ok_call2 wide_wide en_42 (fun u0 u1 W hb (h0 : QNp ((mkRat (5) 12)) u0 W) (h1 : QNp ((mkRat (5) 12)) u1 W) => r7told_t h0 h1)) (fun e => absurd rfl e)) <| obs_cons (ok_pick true (fun _ _ h => h) (fun _ _ _ h => h) (fun e => by cases e)) <| obs_cons (ok_move) <| obs_cons (ok_guard 42 true (by kernel_rfl) (fun _ _ h => h) (fun _ => ok_call1 wide_wide en_14 (fun u0 W hb (h0 : u0 = .int .i64 (3)) => r5of_w (3) h0 (by decide))) (fun e => absurd rfl e)) <| obs_cons (ok_guard 42 true (by kernel_rfl) (fun _ _ h => h) (fun _ => ok_build1 (fun u W (hu : NV W u 3) => b_rat0 (m := 1) (NV.uv' hu (by unfold Bd BB; decide)))) (fun e => absurd rfl e)) <| obs_cons (ok_guard 42 true (by kernel_rfl) (fun _ _ h => h) (fun _ => ok_call1 wide_wide en_24 (fun u0 W hb (h0 : RVp (1) ((0 : Rat)) u0 W) => (ret_cast (rSign_q (m := 1) h0 (by omega) (by omega) (hT.below (s.up hb))) (congrArg (fun k => (fI k).toSF) (show (0 : Rat).num.sign = 0 by decide))))) (fun e => absurd rfl e)) <| obs_cons (ok_guard 42 true (by kernel_rfl) (fun _ _ h => h) (fun _ => ok_cmpI .i64 (0) (0) (true) (fun _ _ h => h) (fun _ _ h => h) (by decide) rfl) (fun e => absurd rfl e)) <| obs_cons (ok_pick true (fun _ _ h => h) (fun _ _ _ h => h) (fun e => by cases e)) <| obs_cons (ok_assign) <| obs_nil) fun a w5 s => ?_
  refine tail_end rfl ?_
  refine wpIn_ret ?_
  exact StS.res1 s (t := 0) rfl (fun _ _ h => h)

end Go.Proofs.Wd


namespace Go.Proofs.Wd
open Go.RowKit Lb

def far7 : Nat := 10000
theorem lt_far {x : Nat} (h : x < 18446744073709551616) (m : Nat) (hm : 2 ≤ m) : x < BB ^ m := Nat.lt_of_lt_of_le h (Nat.le_trans (show 18446744073709551616 ≤ BB ^ 2 by decide) (Nat.pow_le_pow_right BB_pos hm))
theorem r1small_v {W : World} {m : Nat} {v : Value} {x : Nat} (h : LV W m v x) (hm : m ≤ 100000) : Calls Tryz.prog 59 #[v] W (Ret W (fTup2 (UF.eq (.int .u64 ((smallOf x : Nat) : Int))) (fB (isSmall x))).toSF) := by
  obtain ⟨A, n, c, l, rfl, h1, h2, h3, rfl⟩ := h
  refine (rsmall_any A n c l W h1 h2 (by omega)).mono ?_
  rintro e w' ⟨rfl, hb⟩
  exact ⟨_, rfl, ⟨_, _, rfl, rfl, rfl⟩, hb⟩
theorem r1of_v {W : World} {v : Value} (x : Nat) (hx : x < 18446744073709551616) (hv : v = .int .u64 (x : Int)) : Calls Tryz.prog 53 #[v] W (Ret W (fNat x).toSF) := by
  subst hv
  exact (rof_any x hx W).mono fun _ _ h => RetNat.v h
theorem smallOf_lt (x : Nat) : smallOf x < 18446744073709551616 := by unfold smallOf; split <;> omega
theorem ok_quoI {F : Fence} {m : Nat} {P : Program} {w0 : World} {ops : Array Oper} {G : Nat → SF} {d : Tmp} {ty : TypeId} {pos : String} {aft : Array Edge} {t : TypeId} {x y : Operand} {t' : TypeId} (k : IntKind) (u v r : Int) (hx : ∀ q W, (fct G x).p q W → q = .int k u) (hy : ∀ q W, (fct G y).p q W → q = .int k v) (hv : v ≠ 0) (hr : k.wrap (u.tdiv v) = r) (hd : ∀ W, (G d).p (.int k r) W := by exact fun _ => rfl) : GdOK F m P w0 ops G ⟨some d, .binOp .quo t x y t', ty, pos, aft, none⟩ :=
  ok_bin (.int k u) (.int k v) (.int k r) hx hy (fun W => by simp [eqGuard]) (fun W => by simp [binOp, Op.intDiv, hv, hr]) hd
theorem wrapU (u : Int) (r : Nat) (h : u = r) (hr : r < 18446744073709551616) : IntKind.u64.wrap u = r := by
  subst h
  rw [IntKind.wrap_u64]
  omega

set_option maxRecDepth 100000 in
theorem over_v {W : World} {v : Value} {x : Nat} (h : NatV W v x) : Calls Tryz.prog 50 #[v] W (Ret W (fNV ((x : Int))).toSF) := by
  refine run_st [(fNat (x)).toSF] Tryz.func50 rfl (by kernel_rfl) ⟨h, trivial⟩ fun a s => ?_
  refine wpIn_seq ?_
  refine region_go 0 [] hmix s (by kernel_rfl)
    obs_nil fun a w1 s => ?_
  refine t_alloc (CU.len 2) (cs := [.bool false, .slice none 0 0]) (by kernel_rfl) rfl s (by kernel_rfl) (fun W => rfl) rfl fun b2 a w s => ?_
  refine tail_end rfl ?_
  refine wpIn_seq ?_
  refine region_go 2 ((3, .s ((fNat (x)).toSF)) :: (4, .u (fNV ((x : Int)))) :: []) hmix s (by kernel_rfl)
    (obs_cons (ok_move) <| obs_cons (ok_build1 (fun u W (hu : NatV W u (x)) => b_whole hu)) <| obs_nil) fun a w2 s => ?_
  refine t_store (CU.agg (fNV ((x : Int)))) ((fNV ((x : Int))).toSF) rfl s (by kernel_rfl) rfl rfl rfl (fun _ _ h => h) (fun _ _ h => h) (nv_store) fun a w s => ?_
  refine tail_end rfl ?_
  refine wpIn_ret ?_
  exact StS.resC s (CU.agg (fNV ((x : Int)))) rfl (by kernel_rfl) rfl rfl (nv_len _) (fun cs W h => h)

set_option maxRecDepth 100000 in
theorem r7of_w {W : World} {v : Value} (z : Int) (hv : v = .int .i64 z) (hz : -9223372036854775808 ≤ z ∧ z ≤ 9223372036854775807) : Calls Tryz.prog 10 #[v] W (Ret W (fQN (z : Rat)).toSF) := by
  refine run_st [(fI z).toSF] Tryz.func10 rfl (by kernel_rfl) ⟨hv, trivial⟩ fun a s => ?_
  refine wpIn_seq ?_
  refine region_go 0 [] hmix s (by kernel_rfl)
    obs_nil fun a w1 s => ?_
  refine t_alloc (CU.len 3) (cs := [.bool false, .slice none 0 0, .slice none 0 0]) (by kernel_rfl) rfl s (by kernel_rfl) (fun W => rfl) rfl fun b2 a w s => ?_
  refine tail_end rfl ?_
  refine wpIn_seq ?_
  refine region_go 4 ((3, .s ((UF.eq (.int .i64 (z))).toSF)) :: (4, .s ((fNV (z)).toSF)) :: (5, .s ((fNat (1)).toSF)) :: (6, .u (fQN ((z : Rat)))) :: []) hmix s (by kernel_rfl)
    (obs_cons (ok_move) <| obs_cons (ok_call1 wide_wide en_14 (fun u0 W hb (h0 : u0 = .int .i64 (z)) => r5of_w z h0 hz)) <| obs_cons (ok_slice1 (fun u W (hu : u = .int .u32 1) => sl_one hu)) <| obs_cons (ok_build2 (fun u v W (hu : NV W u z) (hv : NatV W v 1) => b_ratN (q := (z : Rat)) hu hv)) <| obs_nil) fun a w2 s => ?_
  refine t_store (CU.agg (fQN ((z : Rat)))) ((fQN ((z : Rat))).toSF) rfl s (by kernel_rfl) rfl rfl rfl (fun _ _ h => h) (fun _ _ h => h) (qn_store) fun a w s => ?_
  refine tail_end rfl ?_
  refine wpIn_ret ?_
  exact StS.resC s (CU.agg (fQN (z : Rat))) rfl (by kernel_rfl) rfl rfl (qn_len _) (fun cs W h => h)

theorem mkRat_num_if (k : Int) (d : Nat) (h : 0 < d) : (if decide (k < 0) then -((k.natAbs / Nat.gcd k.natAbs d : Nat) : Int) else ((k.natAbs / Nat.gcd k.natAbs d : Nat) : Int)) = (mkRat k d).num := by
  have h1 := mkRat_num_abs k d h
  have h2 := mkRat_neg_iff k d h
  rw [← h1, ← h2]
  by_cases hs : (mkRat k d).num < 0
  · rw [decide_eq_true hs, if_pos rfl]
    omega
  · rw [decide_eq_false hs, if_neg (by decide)]
    omega

set_option maxRecDepth 100000 in
theorem r7new_z {W : World} {m : Nat} {v v' : Value} {k : Int} {d : Nat} (h : UV W m v k) (h' : LV W m v' d) (hm : m ≤ 1000) (hd : d = 0) : Calls Tryz.prog 21 #[v, v'] W (Ret W (fTup2 (fQN (mkRat k d)) (fI 30)).toSF) := by
  have bk : k.natAbs < BB ^ m := h.bound
  have hz : true = decide (d = 0) := (decide_eq_true hd).symm
  have hq0 : mkRat k d = ((0 : Int) : Rat) := by rw [hd, Rat.mkRat_zero]; rfl
  refine run_st [(fUV m k).toSF, (fLV m d).toSF] Tryz.func21 rfl (by kernel_rfl) ⟨h, h', trivial⟩ fun a s => ?_
  refine wpIn_seq ?_
  refine region_go 0 [] hmix s (by kernel_rfl)
    obs_nil fun a w1 s => ?_
  refine t_box (CU.agg (fUV (m) (k))) rfl s (by kernel_rfl) (fun v W h => uv_box h) fun b2 a w s => ?_
  refine t_alloc (CU.len 3) (cs := [.bool false, .slice none 0 0, .slice none 0 0]) (by kernel_rfl) rfl s (by kernel_rfl) (fun W => rfl) rfl fun b4 a w s => ?_
  refine t_set (UF.eq (.int .i64 (0))) rfl s (by kernel_rfl) (fun _ _ h => h) fun a w s => ?_
  refine tail_end rfl ?_
  refine wpIn_seq ?_
  refine wpIn_seq ?_
  refine region_go 4 ((18, .s ((fLV (m) (d)).toSF)) :: (19, .s ((fNat (d)).toSF)) :: (20, .s (fLen d)) :: (21, .u (UF.eq (.bool true))) :: []) hmix s (by kernel_rfl)
    (obs_cons (ok_move) <| obs_cons (ok_call1 wide_wide en_51 (fun u0 W hb (h0 : LV W (m) u0 (d)) => (rtrim_v h0 (by omega)))) <| obs_cons (ok_lenN (by kernel_rfl) (fun _ _ h => h)) <| obs_cons (ok_eql0 hz) <| obs_nil) fun a w2 s => ?_
  refine tail_end rfl ?_
  refine StS.cond s true (fun _ _ h => h) (fun e => ?_) (fun e => by cases e)
  refine wpIn_seq ?_
  replace s := s.drop [5]
  refine region_go 1 ((22, .u (fQN (((0 : Int) : Rat)))) :: []) hmix s (by kernel_rfl)
    (obs_cons (ok_call1 wide_wide en_10 (fun u0 W hb (h0 : u0 = .int .i64 (0)) => r7of_w 0 h0 (by decide))) <| obs_nil) fun a w3 s => ?_
  refine t_store (CU.agg (fQN (((0 : Int) : Rat)))) ((fQN (((0 : Int) : Rat))).toSF) rfl s (by kernel_rfl) rfl rfl rfl (fun _ _ h => h) (fun _ _ h => h) (qn_store) fun a w s => ?_
  refine t_set (UF.eq (.int .i64 (30))) rfl s (by kernel_rfl) (fun _ _ h => h) fun a w s => ?_
  refine tail_end rfl ?_
  refine wpIn_ret ?_
  exact StS.resCT s (CU.agg (fQN ((0 : Int) : Rat))) rfl (by kernel_rfl) rfl rfl (qn_len _) (fun cs v W h1 h2 => ⟨_, _, rfl, by rw [hq0]; exact h1, h2⟩)

set_option maxRecDepth 100000 in
theorem r7new_p {W : World} {m : Nat} {v v' : Value} {k : Int} {d : Nat} (h : UV W m v k) (h' : LV W m v' d) (hm : m ≤ 1000) (hd0 : 0 < d) : Calls Tryz.prog 21 #[v, v'] W (Ret W (fTup2 (fQN (mkRat k d)) (fI 0)).toSF) := by
  have bk : k.natAbs < BB ^ m := h.bound
  have hz : false = decide (d = 0) := (decide_eq_false (by omega)).symm
  have hdiv : ∀ W u0 u1 x, LV W m u0 x → NatV W u1 (Nat.gcd k.natAbs d) → Calls Tryz.prog 62 #[u0, u1] W (Ret W (fTup3 (fNat ((x) / (Nat.gcd k.natAbs d))) (fNat ((x) % (Nat.gcd k.natAbs d))) (fI 0)).toSF) := fun W u0 u1 x h1 h2 => by
    refine (rdiv_v h1 (NatV.lv (m := m) h2 (Nat.lt_of_le_of_lt (Nat.gcd_le_right _ hd0) h'.bound)) (by omega) (Nat.gcd_pos_of_pos_right _ hd0)).mono ?_
    rintro e w' ⟨v1, v2, rfl, h3, h4, hb⟩
    exact ⟨_, rfl, ⟨v1, v2, _, rfl, h3, h4, rfl⟩, hb⟩
  refine run_st [(fUV m k).toSF, (fLV m d).toSF] Tryz.func21 rfl (by kernel_rfl) ⟨h, h', trivial⟩ fun a s => ?_
  refine wpIn_seq ?_
  refine region_go 0 [] hmix s (by kernel_rfl)
    obs_nil fun a w1 s => ?_
  refine t_box (CU.agg (fUV (m) (k))) rfl s (by kernel_rfl) (fun v W h => uv_box h) fun b2 a w s => ?_
  refine t_alloc (CU.len 3) (cs := [.bool false, .slice none 0 0, .slice none 0 0]) (by kernel_rfl) rfl s (by kernel_rfl) (fun W => rfl) rfl fun b4 a w s => ?_
  refine t_set (UF.eq (.int .i64 (0))) rfl s (by kernel_rfl) (fun _ _ h => h) fun a w s => ?_
  refine tail_end rfl ?_
  refine wpIn_seq ?_
  refine wpIn_seq ?_
  refine region_go 4 ((18, .s ((fLV (m) (d)).toSF)) :: (19, .s ((fNat (d)).toSF)) :: (20, .s (fLen d)) :: (21, .u (UF.eq (.bool false))) :: []) hmix s (by kernel_rfl)
    (obs_cons (ok_move) <| obs_cons (ok_call1 wide_wide en_51 (fun u0 W hb (h0 : LV W (m) u0 (d)) => (rtrim_v h0 (by omega)))) <| obs_cons (ok_lenN (by kernel_rfl) (fun _ _ h => h)) <| obs_cons (ok_eql0 hz) <| obs_nil) fun a w2 s => ?_
  refine tail_end rfl ?_
  refine StS.cond s false (fun _ _ h => h) (fun e => by cases e) (fun e => ?_)
  refine wpIn_skip ?_
  refine wpIn_seq ?_
  refine region_go 2 ((23, .s ((fUV (m) (k)).toSF)) :: (24, .u (fNV (k))) :: []) hmix s (by kernel_rfl)
    (obs_cons (ok_ldW (f := fUV (m) (k)) 2 (by kernel_rfl) (hz := uv_len _ _)) <| obs_cons (ok_call1 wide_wide en_58 (fun u0 W hb (h0 : UV W (m) u0 (k)) => r5norm_w h0 (by omega))) <| obs_nil) fun a w3 s => ?_
  refine t_store (CU.agg (fNV (k))) ((fNV (k)).toSF) rfl s (by kernel_rfl) rfl rfl rfl (uv_len _ _) (fun _ _ h => h) (nv_store) fun a w s => ?_
  refine tail_end rfl ?_
  refine wpIn_seq ?_
  refine region_go 8 ((26, .s (SF.ptr ((CU.agg (fNV (k))).cf.at 1))) :: (27, .s ((fNat ((k).natAbs)).toSF)) :: (28, .s ((fTup2 (UF.eq (.int .u64 (((smallOf ((k).natAbs) : Nat) : Int)))) (UF.eq (.bool (isSmall ((k).natAbs))))).toSF)) :: (25, .s ((fTup2 (UF.eq (.int .u64 (((smallOf ((k).natAbs) : Nat) : Int)))) (UF.eq (.bool (isSmall ((k).natAbs))))).toSF)) :: (29, .s ((UF.eq (.int .u64 (((smallOf ((k).natAbs) : Nat) : Int)))).toSF)) :: (30, .s ((UF.eq (.bool (isSmall ((k).natAbs)))).toSF)) :: (6, .u (UF.eq (.int .u64 (((smallOf ((k).natAbs) : Nat) : Int))))) :: (7, .u (UF.eq (.bool (isSmall ((k).natAbs))))) :: []) hmix s (by kernel_rfl)
    (obs_cons (ok_fld (C := (CU.agg (fNV (k))).cf) 1 (by kernel_rfl)) <| obs_cons (ok_ld (C := (CU.agg (fNV (k))).cf) (k := 1) (by kernel_rfl) (h := nv_abs)) <| obs_cons (ok_call1 wide_wide en_59 (fun u0 W hb (h0 : NatV W u0 ((k).natAbs)) => r1small_v (NatV.lv (m := m) h0 bk) (by omega))) <| obs_cons (ok_move) <| obs_cons (ok_ext20 (A := (UF.eq (.int .u64 (((smallOf ((k).natAbs) : Nat) : Int)))).toSF) (B := (UF.eq (.bool (isSmall ((k).natAbs)))).toSF) (fun _ _ h => h)) <| obs_cons (ok_ext21 (A := (UF.eq (.int .u64 (((smallOf ((k).natAbs) : Nat) : Int)))).toSF) (B := (UF.eq (.bool (isSmall ((k).natAbs)))).toSF) (fun _ _ h => h)) <| obs_cons (ok_assign) <| obs_cons (ok_assign) <| obs_nil) fun a w4 s => ?_
  refine tail_end rfl ?_
  refine wpIn_seq ?_
  refine region_go 7 ((32, .s ((fLV (m) (d)).toSF)) :: (33, .s ((fTup2 (UF.eq (.int .u64 (((smallOf (d) : Nat) : Int)))) (UF.eq (.bool (isSmall (d))))).toSF)) :: (31, .s ((fTup2 (UF.eq (.int .u64 (((smallOf (d) : Nat) : Int)))) (UF.eq (.bool (isSmall (d))))).toSF)) :: (34, .s ((UF.eq (.int .u64 (((smallOf (d) : Nat) : Int)))).toSF)) :: (35, .s ((UF.eq (.bool (isSmall (d)))).toSF)) :: (8, .u (UF.eq (.int .u64 (((smallOf (d) : Nat) : Int))))) :: (9, .u (UF.eq (.bool (isSmall (d))))) :: []) hmix s (by kernel_rfl)
    (obs_cons (ok_move) <| obs_cons (ok_call1 wide_wide en_59 (fun u0 W hb (h0 : LV W (m) u0 (d)) => r1small_v h0 (by omega))) <| obs_cons (ok_move) <| obs_cons (ok_ext20 (A := (UF.eq (.int .u64 (((smallOf (d) : Nat) : Int)))).toSF) (B := (UF.eq (.bool (isSmall (d)))).toSF) (fun _ _ h => h)) <| obs_cons (ok_ext21 (A := (UF.eq (.int .u64 (((smallOf (d) : Nat) : Int)))).toSF) (B := (UF.eq (.bool (isSmall (d)))).toSF) (fun _ _ h => h)) <| obs_cons (ok_assign) <| obs_cons (ok_assign) <| obs_nil) fun a w5 s => ?_
  refine tail_end rfl ?_
  refine wpIn_seq ?_
  refine wpIn_seq ?_
  refine region_go 4 ((36, .s ((UF.eq (.bool (isSmall ((k).natAbs)))).toSF)) :: (37, .s ((UF.eq (.bool (isSmall ((k).natAbs)))).toSF)) :: (38, .s (SF.imp ((isSmall ((k).natAbs)) = true) ((UF.eq (.bool (isSmall (d)))).toSF))) :: (39, .u (UF.eq (.bool ((isSmall ((k).natAbs)) && (isSmall (d)))))) :: []) hmix s (by kernel_rfl)
    (obs_cons (ok_move) <| obs_cons (ok_move) <| obs_cons (ok_guard 37 (isSmall ((k).natAbs)) (by kernel_rfl) (fun _ _ h => h) (fun e => gd_imp [] ((UF.eq (.bool (isSmall (d)))).toSF) (List.forall_mem_nil _) (fun _ _ h _ => h) (by kernel_rfl) (ok_move)) (fun e W h => absurd h e)) <| obs_cons (ok_pick (isSmall ((k).natAbs)) (fun _ _ h => h) (fun e v W h => pick_and (imp_app e h) e) (fun e v W h => pick_and' h e)) <| obs_nil) fun a w6 s => ?_
  refine tail_end rfl ?_
  refine StS.cond s ((isSmall ((k).natAbs)) && (isSmall (d))) (fun _ _ h => h) (fun e => ?_) (fun e => ?_)
  · rw [Bool.and_eq_true] at e
    have hs1 : smallOf k.natAbs = k.natAbs := by have := e.1; unfold isSmall at this; unfold smallOf; rw [if_pos (of_decide_eq_true this)]
    have hs2 : smallOf d = d := by have := e.2; unfold isSmall at this; unfold smallOf; rw [if_pos (of_decide_eq_true this)]
    have hg0 : (((Nat.gcd (smallOf k.natAbs) (smallOf d) : Nat)) : Int) ≠ 0 := by rw [hs1, hs2]; have := Nat.gcd_pos_of_pos_right k.natAbs hd0; omega
    have hden : (mkRat k d).den = smallOf d / (Nat.gcd (smallOf k.natAbs) (smallOf d)) := by rw [hs1, hs2]; exact mkRat_den_eq k d hd0
    have hlt : ∀ x, x < 18446744073709551616 → x < BB ^ far7 := fun x hx => lt_far hx far7 (by decide)
    have hnum : ∀ W u, UV W far7 u (if decide (k < 0) then -(((smallOf k.natAbs / (Nat.gcd (smallOf k.natAbs) (smallOf d))) : Nat) : Int) else (((smallOf k.natAbs / (Nat.gcd (smallOf k.natAbs) (smallOf d))) : Nat) : Int)) → Calls Tryz.prog 58 #[u] W (RetV W (mkRat k d).num) := fun W u hu => by
      have := r5norm_w hu (by decide)
      rw [hs1, hs2, mkRat_num_if k d hd0] at this
      exact this
    refine wpIn_seq ?_
    refine region_go 4 ((40, .s ((UF.eq (.int .u64 (((smallOf ((k).natAbs) : Nat) : Int)))).toSF)) :: (41, .s ((UF.eq (.int .u64 (((smallOf (d) : Nat) : Int)))).toSF)) :: (42, .s ((UF.eq (.int .u64 (((Nat.gcd (smallOf k.natAbs) (smallOf d) : Nat) : Int)))).toSF)) :: (10, .u (UF.eq (.int .u64 (((Nat.gcd (smallOf k.natAbs) (smallOf d) : Nat) : Int))))) :: []) hmix s (by kernel_rfl)
      (obs_cons (ok_move) <| obs_cons (ok_move) <| obs_cons (ok_call2 wide_wide en_60 (fun u0 u1 W hb (h0 : u0 = .int .u64 (((smallOf ((k).natAbs) : Nat) : Int))) (h1 : u1 = .int .u64 (((smallOf (d) : Nat) : Int))) => r7plain_t _ _ h0 h1 (smallOf_lt _) (smallOf_lt _))) <| obs_cons (ok_assign) <| obs_nil) fun a w7 s => ?_
    refine tail_end rfl ?_
    refine wpIn_seq ?_
    replace s := s.drop [5]
    refine region_goP [2, 3, 8, 9] 13 ((43, .s (SF.ptr ((CU.agg (fNV (k))).cf.at 0))) :: (44, .s ((UF.eq (.bool (decide (k < 0)))).toSF)) :: (45, .s ((UF.eq (.int .u64 (((smallOf ((k).natAbs) : Nat) : Int)))).toSF)) :: (46, .s ((UF.eq (.int .u64 (((Nat.gcd (smallOf k.natAbs) (smallOf d) : Nat) : Int)))).toSF)) :: (47, .s ((UF.eq (.int .u64 (((smallOf k.natAbs / (Nat.gcd (smallOf k.natAbs) (smallOf d)) : Nat) : Int)))).toSF)) :: (48, .s ((fNat (smallOf k.natAbs / (Nat.gcd (smallOf k.natAbs) (smallOf d)))).toSF)) :: (49, .s ((fUV (far7) ((if decide (k < 0) then -((smallOf k.natAbs / (Nat.gcd (smallOf k.natAbs) (smallOf d)) : Nat) : Int) else ((smallOf k.natAbs / (Nat.gcd (smallOf k.natAbs) (smallOf d)) : Nat) : Int)))).toSF)) :: (50, .s ((fNV ((mkRat k d).num)).toSF)) :: (51, .s ((UF.eq (.int .u64 (((smallOf (d) : Nat) : Int)))).toSF)) :: (52, .s ((UF.eq (.int .u64 (((Nat.gcd (smallOf k.natAbs) (smallOf d) : Nat) : Int)))).toSF)) :: (53, .s ((UF.eq (.int .u64 (((smallOf d / (Nat.gcd (smallOf k.natAbs) (smallOf d)) : Nat) : Int)))).toSF)) :: (54, .s ((fNat (smallOf d / (Nat.gcd (smallOf k.natAbs) (smallOf d)))).toSF)) :: (55, .u (fQN (mkRat k d))) :: []) hmix s (by kernel_rfl)
      (obs_cons (ok_fld (C := (CU.agg (fNV (k))).cf) 0 (by kernel_rfl)) <| obs_cons (ok_ld (C := (CU.agg (fNV (k))).cf) (k := 0) (by kernel_rfl) (h := nv_neg)) <| obs_cons (ok_move) <| obs_cons (ok_move) <| obs_cons (ok_quoI .u64 (((smallOf ((k).natAbs) : Nat) : Int)) (((Nat.gcd (smallOf k.natAbs) (smallOf d) : Nat) : Int)) ((smallOf k.natAbs / (Nat.gcd (smallOf k.natAbs) (smallOf d)) : Nat) : Int) (fun _ _ h => h) (fun _ _ h => h) hg0 (wrapU _ _ (by rw [Int.tdiv_eq_ediv_of_nonneg (by omega), Int.natCast_ediv]) (Nat.lt_of_le_of_lt (Nat.div_le_self _ _) (smallOf_lt _)))) <| obs_cons (ok_call1 wide_wide en_53 (fun u0 W hb (h0 : u0 = .int .u64 (((smallOf k.natAbs / (Nat.gcd (smallOf k.natAbs) (smallOf d)) : Nat) : Int))) => r1of_v _ (Nat.lt_of_le_of_lt (Nat.div_le_self _ _) (smallOf_lt _)) h0)) <| obs_cons (ok_build2 (fun u v W (hu : u = .bool (decide (k < 0))) (hv : NatV W v (smallOf k.natAbs / (Nat.gcd (smallOf k.natAbs) (smallOf d)))) => b_int hu hv (hlt _ (by first | exact Nat.lt_of_le_of_lt (Nat.div_le_self _ _) (smallOf_lt _) | exact hk64 | exact Nat.lt_of_le_of_lt (Nat.div_le_self _ _) (Nat.lt_of_lt_of_le bk (Nat.pow_le_pow_right BB_pos (Nat.le_trans hm (by decide)))))))) <| obs_cons (ok_call1 wide_wide en_58 (fun u0 W hb (h0 : UV W (far7) u0 ((if decide (k < 0) then -((smallOf k.natAbs / (Nat.gcd (smallOf k.natAbs) (smallOf d)) : Nat) : Int) else ((smallOf k.natAbs / (Nat.gcd (smallOf k.natAbs) (smallOf d)) : Nat) : Int)))) => hnum W u0 (h0 : UV W far7 u0 _))) <| obs_cons (ok_move) <| obs_cons (ok_move) <| obs_cons (ok_quoI .u64 (((smallOf (d) : Nat) : Int)) (((Nat.gcd (smallOf k.natAbs) (smallOf d) : Nat) : Int)) ((smallOf d / (Nat.gcd (smallOf k.natAbs) (smallOf d)) : Nat) : Int) (fun _ _ h => h) (fun _ _ h => h) hg0 (wrapU _ _ (by rw [Int.tdiv_eq_ediv_of_nonneg (by omega), Int.natCast_ediv]) (Nat.lt_of_le_of_lt (Nat.div_le_self _ _) (smallOf_lt _)))) <| obs_cons (ok_call1 wide_wide en_53 (fun u0 W hb (h0 : u0 = .int .u64 (((smallOf d / (Nat.gcd (smallOf k.natAbs) (smallOf d)) : Nat) : Int))) => r1of_v _ (Nat.lt_of_le_of_lt (Nat.div_le_self _ _) (smallOf_lt _)) h0)) <| obs_cons (ok_build2 (fun u v W (hu : NV W u ((mkRat k d).num)) (hv : NatV W v (smallOf d / (Nat.gcd (smallOf k.natAbs) (smallOf d)))) => b_ratN (q := mkRat k d) hu (by first | exact hv | (rw [hden]; exact hv)))) <| obs_nil) fun Q' hQ a w8 s => ?_
    refine t_store (CU.agg (fQN (mkRat k d))) ((fQN (mkRat k d)).toSF) rfl s (by kernel_rfl) rfl rfl rfl (fun _ _ h => h) (fun _ _ h => h) (qn_store) fun a w s => ?_
    refine t_set (UF.eq (.int .i64 (0))) rfl s (by kernel_rfl) (fun _ _ h => h) fun a w s => ?_
    refine tail_end rfl (hQ _ _ ?_)
    refine wpIn_ret ?_
    exact StS.resCT s (CU.agg (fQN (mkRat k d))) rfl (by kernel_rfl) rfl rfl (qn_len _) (fun cs v W h1 h2 => ⟨_, _, rfl, h1, h2⟩)
  · have hlt : ∀ x, x < BB ^ far7 → x < BB ^ far7 := fun x hx => hx
    have hden : (mkRat k d).den = (d) / (Nat.gcd k.natAbs d) := mkRat_den_eq k d hd0
    have hnum : ∀ W u, UV W far7 u (if decide (k < 0) then -((((k).natAbs / (Nat.gcd k.natAbs d)) : Nat) : Int) else ((((k).natAbs / (Nat.gcd k.natAbs d)) : Nat) : Int)) → Calls Tryz.prog 58 #[u] W (RetV W (mkRat k d).num) := fun W u hu => by
      have := r5norm_w hu (by decide)
      rw [mkRat_num_if k d hd0] at this
      exact this
    refine wpIn_skip ?_
    refine wpIn_seq ?_
    refine region_go 5 ((56, .s (SF.ptr ((CU.agg (fNV (k))).cf.at 1))) :: (57, .s ((fNat ((k).natAbs)).toSF)) :: (58, .s ((fLV (m) (d)).toSF)) :: (59, .s ((fNat (Nat.gcd k.natAbs d)).toSF)) :: (11, .u (fNat (Nat.gcd k.natAbs d))) :: []) hmix s (by kernel_rfl)
      (obs_cons (ok_fld (C := (CU.agg (fNV (k))).cf) 1 (by kernel_rfl)) <| obs_cons (ok_ld (C := (CU.agg (fNV (k))).cf) (k := 1) (by kernel_rfl) (h := nv_abs)) <| obs_cons (ok_move) <| obs_cons (ok_call2 wide_wide en_61 (fun u0 u1 W hb (h0 : NatV W u0 ((k).natAbs)) (h1 : LV W (m) u1 (d)) => r4gcd_v (NatV.lv (m := m) h0 bk) h1 (by omega))) <| obs_cons (ok_assign) <| obs_nil) fun a w9 s => ?_
    refine tail_end rfl ?_
    refine wpIn_seq ?_
    refine region_go 11 ((61, .s (SF.ptr ((CU.agg (fNV (k))).cf.at 1))) :: (62, .s ((fNat ((k).natAbs)).toSF)) :: (63, .s ((fNat (Nat.gcd k.natAbs d)).toSF)) :: (64, .s ((fTup3 (fNat (((k).natAbs) / (Nat.gcd k.natAbs d))) (fNat (((k).natAbs) % (Nat.gcd k.natAbs d))) (UF.eq (.int .i64 (0)))).toSF)) :: (60, .s ((fTup3 (fNat (((k).natAbs) / (Nat.gcd k.natAbs d))) (fNat (((k).natAbs) % (Nat.gcd k.natAbs d))) (UF.eq (.int .i64 (0)))).toSF)) :: (65, .s ((fNat (((k).natAbs) / (Nat.gcd k.natAbs d))).toSF)) :: (66, .s ((fNat (((k).natAbs) % (Nat.gcd k.natAbs d))).toSF)) :: (67, .s ((UF.eq (.int .i64 (0))).toSF)) :: (12, .u (fNat (((k).natAbs) / (Nat.gcd k.natAbs d)))) :: (13, .s ((fNat (((k).natAbs) % (Nat.gcd k.natAbs d))).toSF)) :: (14, .s ((UF.eq (.int .i64 (0))).toSF)) :: []) hmix s (by kernel_rfl)
      (obs_cons (ok_fld (C := (CU.agg (fNV (k))).cf) 1 (by kernel_rfl)) <| obs_cons (ok_ld (C := (CU.agg (fNV (k))).cf) (k := 1) (by kernel_rfl) (h := nv_abs)) <| obs_cons (ok_move) <| obs_cons (ok_call2 wide_wide en_62 (fun u0 u1 W hb (h0 : NatV W u0 ((k).natAbs)) (h1 : NatV W u1 (Nat.gcd k.natAbs d)) => hdiv W u0 u1 _ (NatV.lv (m := m) h0 bk) h1)) <| obs_cons (ok_move) <| obs_cons (ok_ext30 (A := (fNat (((k).natAbs) / (Nat.gcd k.natAbs d))).toSF) (B := (fNat (((k).natAbs) % (Nat.gcd k.natAbs d))).toSF) (C := (UF.eq (.int .i64 (0))).toSF) (fun _ _ h => h)) <| obs_cons (ok_ext31 (A := (fNat (((k).natAbs) / (Nat.gcd k.natAbs d))).toSF) (B := (fNat (((k).natAbs) % (Nat.gcd k.natAbs d))).toSF) (C := (UF.eq (.int .i64 (0))).toSF) (fun _ _ h => h)) <| obs_cons (ok_ext32 (A := (fNat (((k).natAbs) / (Nat.gcd k.natAbs d))).toSF) (B := (fNat (((k).natAbs) % (Nat.gcd k.natAbs d))).toSF) (C := (UF.eq (.int .i64 (0))).toSF) (fun _ _ h => h)) <| obs_cons (ok_assign) <| obs_cons (ok_assign) <| obs_cons (ok_assign) <| obs_nil) fun a w10 s => ?_
    refine tail_end rfl ?_
    refine wpIn_seq ?_
    refine region_go 10 ((69, .s ((fLV (m) (d)).toSF)) :: (70, .s ((fNat (Nat.gcd k.natAbs d)).toSF)) :: (71, .s ((fTup3 (fNat ((d) / (Nat.gcd k.natAbs d))) (fNat ((d) % (Nat.gcd k.natAbs d))) (UF.eq (.int .i64 (0)))).toSF)) :: (68, .s ((fTup3 (fNat ((d) / (Nat.gcd k.natAbs d))) (fNat ((d) % (Nat.gcd k.natAbs d))) (UF.eq (.int .i64 (0)))).toSF)) :: (72, .s ((fNat ((d) / (Nat.gcd k.natAbs d))).toSF)) :: (73, .s ((fNat ((d) % (Nat.gcd k.natAbs d))).toSF)) :: (74, .s ((UF.eq (.int .i64 (0))).toSF)) :: (15, .u (fNat ((d) / (Nat.gcd k.natAbs d)))) :: (16, .s ((fNat ((d) % (Nat.gcd k.natAbs d))).toSF)) :: (17, .s ((UF.eq (.int .i64 (0))).toSF)) :: []) hmix s (by kernel_rfl)
      (obs_cons (ok_move) <| obs_cons (ok_move) <| obs_cons (ok_call2 wide_wide en_62 (fun u0 u1 W hb (h0 : LV W (m) u0 (d)) (h1 : NatV W u1 (Nat.gcd k.natAbs d)) => hdiv W u0 u1 _ h0 h1)) <| obs_cons (ok_move) <| obs_cons (ok_ext30 (A := (fNat ((d) / (Nat.gcd k.natAbs d))).toSF) (B := (fNat ((d) % (Nat.gcd k.natAbs d))).toSF) (C := (UF.eq (.int .i64 (0))).toSF) (fun _ _ h => h)) <| obs_cons (ok_ext31 (A := (fNat ((d) / (Nat.gcd k.natAbs d))).toSF) (B := (fNat ((d) % (Nat.gcd k.natAbs d))).toSF) (C := (UF.eq (.int .i64 (0))).toSF) (fun _ _ h => h)) <| obs_cons (ok_ext32 (A := (fNat ((d) / (Nat.gcd k.natAbs d))).toSF) (B := (fNat ((d) % (Nat.gcd k.natAbs d))).toSF) (C := (UF.eq (.int .i64 (0))).toSF) (fun _ _ h => h)) <| obs_cons (ok_assign) <| obs_cons (ok_assign) <| obs_cons (ok_assign) <| obs_nil) fun a w11 s => ?_
    refine tail_end rfl ?_
    refine wpIn_seq ?_
    replace s := s.drop [5]
    refine region_go 7 ((75, .s (SF.ptr ((CU.agg (fNV (k))).cf.at 0))) :: (76, .s ((UF.eq (.bool (decide (k < 0)))).toSF)) :: (77, .s ((fNat (((k).natAbs) / (Nat.gcd k.natAbs d))).toSF)) :: (78, .s ((fUV (far7) ((if decide (k < 0) then -((((k).natAbs) / (Nat.gcd k.natAbs d) : Nat) : Int) else ((((k).natAbs) / (Nat.gcd k.natAbs d) : Nat) : Int)))).toSF)) :: (79, .s ((fNV ((mkRat k d).num)).toSF)) :: (80, .s ((fNat ((d) / (Nat.gcd k.natAbs d))).toSF)) :: (81, .u (fQN (mkRat k d))) :: []) hmix s (by kernel_rfl)
      (obs_cons (ok_fld (C := (CU.agg (fNV (k))).cf) 0 (by kernel_rfl)) <| obs_cons (ok_ld (C := (CU.agg (fNV (k))).cf) (k := 0) (by kernel_rfl) (h := nv_neg)) <| obs_cons (ok_move) <| obs_cons (ok_build2 (fun u v W (hu : u = .bool (decide (k < 0))) (hv : NatV W v (((k).natAbs) / (Nat.gcd k.natAbs d))) => b_int hu hv (hlt _ (by first | exact Nat.lt_of_le_of_lt (Nat.div_le_self _ _) (smallOf_lt _) | exact hk64 | exact Nat.lt_of_le_of_lt (Nat.div_le_self _ _) (Nat.lt_of_lt_of_le bk (Nat.pow_le_pow_right BB_pos (Nat.le_trans hm (by decide)))))))) <| obs_cons (ok_call1 wide_wide en_58 (fun u0 W hb (h0 : UV W (far7) u0 ((if decide (k < 0) then -((((k).natAbs) / (Nat.gcd k.natAbs d) : Nat) : Int) else ((((k).natAbs) / (Nat.gcd k.natAbs d) : Nat) : Int)))) => hnum W u0 (h0 : UV W far7 u0 _))) <| obs_cons (ok_move) <| obs_cons (ok_build2 (fun u v W (hu : NV W u ((mkRat k d).num)) (hv : NatV W v ((d) / (Nat.gcd k.natAbs d))) => b_ratN (q := mkRat k d) hu (by first | exact hv | (rw [hden]; exact hv)))) <| obs_nil) fun a w12 s => ?_
    refine t_store (CU.agg (fQN (mkRat k d))) ((fQN (mkRat k d)).toSF) rfl s (by kernel_rfl) rfl rfl rfl (fun _ _ h => h) (fun _ _ h => h) (qn_store) fun a w s => ?_
    refine t_set (UF.eq (.int .i64 (0))) rfl s (by kernel_rfl) (fun _ _ h => h) fun a w s => ?_
    refine tail_end rfl ?_
    refine wpIn_ret ?_
    exact StS.resCT s (CU.agg (fQN (mkRat k d))) rfl (by kernel_rfl) rfl rfl (qn_len _) (fun cs v W h1 h2 => ⟨_, _, rfl, h1, h2⟩)

theorem r7new_v {W : World} {m : Nat} {v v' : Value} {k : Int} {d : Nat} (h : UV W m v k) (h' : LV W m v' d) (hm : m ≤ 1000) : Calls Tryz.prog 21 #[v, v'] W (Ret W (fTup2 (fQN (mkRat k d)) (fI (if d = 0 then 30 else 0))).toSF) := by
  by_cases hd : d = 0
  · rw [if_pos hd]
    exact r7new_z h h' hm hd
  · rw [if_neg hd]
    exact r7new_p h h' hm (by omega)

end Go.Proofs.Wd


namespace Go.Proofs.Wd
open Go.RowKit Lb

set_option maxRecDepth 100000 in
theorem r7norm_r {W : World} {m : Nat} {v : Value} {k : Int} {d : Nat} (h : QVp m k d v W) (hm : m ≤ 1000) : Calls Tryz.prog 30 #[v] W (Ret W (fQN (mkRat k d)).toSF) := by
  refine run_st [(fQV m k d).toSF] Tryz.func30 rfl (by kernel_rfl) ⟨h, trivial⟩ fun a s => ?_
  refine wpIn_seq ?_
  refine region_go 0 [] hmix s (by kernel_rfl)
    obs_nil fun a w1 s => ?_
  refine t_box (CU.agg (fQV (m) (k) (d))) rfl s (by kernel_rfl) (fun v W h => qv_box h) fun b1 a w s => ?_
  refine t_alloc (CU.len 3) (cs := [.bool false, .slice none 0 0, .slice none 0 0]) (by kernel_rfl) rfl s (by kernel_rfl) (fun W => rfl) rfl fun b2 a w s => ?_
  refine tail_end rfl ?_
  refine wpIn_seq ?_
  refine region_go 8 ((6, .s (SF.ptr ((CU.agg (fQV (m) (k) (d))).cf.at 0))) :: (7, .s ((fUV (m) (k)).toSF)) :: (8, .s (SF.ptr ((CU.agg (fQV (m) (k) (d))).cf.at 2))) :: (9, .s ((fLV (m) (d)).toSF)) :: (10, .s ((fTup2 (fQN ((mkRat k d))) (UF.eq (.int .i64 ((if d = 0 then 30 else 0))))).toSF)) :: (5, .s ((fTup2 (fQN ((mkRat k d))) (UF.eq (.int .i64 ((if d = 0 then 30 else 0))))).toSF)) :: (11, .u (fQN ((mkRat k d)))) :: (12, .u (UF.eq (.int .i64 ((if d = 0 then 30 else 0))))) :: []) hmix s (by kernel_rfl)
    (obs_cons (ok_fld (C := (CU.agg (fQV (m) (k) (d))).cf) 0 (by kernel_rfl)) <| obs_cons (ok_ldA (C := (CU.agg (fQV (m) (k) (d))).cf) (k := 0) 2 (by kernel_rfl) (h := qv_num)) <| obs_cons (ok_fld (C := (CU.agg (fQV (m) (k) (d))).cf) 2 (by kernel_rfl)) <| obs_cons (ok_ld (C := (CU.agg (fQV (m) (k) (d))).cf) (k := 2) (by kernel_rfl) (h := qv_den)) <| obs_cons (ok_call2 wide_wide en_21 (fun u0 u1 W hb (h0 : UV W (m) u0 (k)) (h1 : LV W (m) u1 (d)) => r7new_v h0 h1 hm)) <| obs_cons (ok_move) <| obs_cons (ok_ext20 (A := (fQN ((mkRat k d))).toSF) (B := (UF.eq (.int .i64 ((if d = 0 then 30 else 0)))).toSF) (fun _ _ h => h)) <| obs_cons (ok_ext21 (A := (fQN ((mkRat k d))).toSF) (B := (UF.eq (.int .i64 ((if d = 0 then 30 else 0)))).toSF) (fun _ _ h => h)) <| obs_nil) fun a w2 s => ?_
  refine t_alloc (CU.len 3) (cs := [.bool false, .slice none 0 0, .slice none 0 0]) (by kernel_rfl) rfl s (by kernel_rfl) (fun W => rfl) rfl fun b3 a w s => ?_
  refine t_store (CU.agg (fQN ((mkRat k d)))) ((fQN ((mkRat k d))).toSF) rfl s (by kernel_rfl) rfl rfl rfl (fun _ _ h => h) (fun _ _ h => h) (qn_store) fun a w s => ?_
  refine t_set (UF.eq (.int .i64 ((if d = 0 then 30 else 0)))) rfl s (by kernel_rfl) (fun _ _ h => h) fun a w s => ?_
  refine tail_end rfl ?_
  refine wpIn_seq ?_
  refine region_go 1 ((13, .u (fQN ((mkRat k d)))) :: []) hmix s (by kernel_rfl)
    (obs_cons (ok_ldW (f := fQN ((mkRat k d))) 3 (by kernel_rfl) (hz := qn_len _)) <| obs_nil) fun a w3 s => ?_
  refine t_store (CU.agg (fQN ((mkRat k d)))) ((fQN ((mkRat k d))).toSF) rfl s (by kernel_rfl) rfl rfl rfl (fun _ _ h => h) (fun _ _ h => h) (qn_store) fun a w s => ?_
  refine tail_end rfl ?_
  refine wpIn_ret ?_
  exact StS.resC s (CU.agg (fQN (mkRat k d))) rfl (by kernel_rfl) rfl rfl (qn_len _) (fun cs W h => h)

theorem r7norm_q {W : World} {m : Nat} {v : Value} {q : Rat} (h : RVp m q v W) (hm : m ≤ 1000) : Calls Tryz.prog 30 #[v] W (Ret W (fQN q).toSF) := by
  obtain ⟨k, d, h1, rfl⟩ := h
  exact r7norm_r h1 hm

theorem r7sign_mk (n : Int) (d : Nat) (hd : 0 < d) : (mkRat n d).num.sign = n.sign := by
  have h1 := decide_eq_decide.1 (mkRat_neg_iff n d hd)
  have h2 : (mkRat n d).num = 0 ↔ n = 0 := by rw [Rat.num_eq_zero, Rat.mkRat_eq_zero (by omega)]
  rcases Int.lt_trichotomy n 0 with h | h | h
  · rw [Int.sign_eq_neg_one_of_neg h, Int.sign_eq_neg_one_of_neg (h1.2 h)]
  · rw [h2.2 h, h]
  · rw [Int.sign_eq_one_of_pos h, Int.sign_eq_one_of_pos (by have := mt h1.1 (by omega); have := mt h2.1 (by omega); omega)]

set_option maxRecDepth 100000 in
theorem r7sign_z {W : World} {m : Nat} {v : Value} {k : Int} {d : Nat} (h : QVp m k d v W) (hm : m ≤ 1000) (hd : d = 0) : Calls Tryz.prog 16 #[v] W (Ret W (fI 0).toSF) := by
  have hz : true = decide (d = 0) := (decide_eq_true hd).symm
  refine run_st [(fQV m k d).toSF] Tryz.func16 rfl (by kernel_rfl) ⟨h, trivial⟩ fun a s => ?_
  refine wpIn_seq ?_
  refine region_go 0 [] hmix s (by kernel_rfl)
    obs_nil fun a w1 s => ?_
  refine t_box (CU.agg (fQV (m) (k) (d))) rfl s (by kernel_rfl) (fun v W h => qv_box h) fun b1 a w s => ?_
  refine t_set (UF.eq (.int .i64 (0))) rfl s (by kernel_rfl) (fun _ _ h => h) fun a w s => ?_
  refine tail_end rfl ?_
  refine wpIn_seq ?_
  refine wpIn_seq ?_
  refine region_go 5 ((3, .s (SF.ptr ((CU.agg (fQV (m) (k) (d))).cf.at 2))) :: (4, .s ((fLV (m) (d)).toSF)) :: (5, .s ((fNat (d)).toSF)) :: (6, .s (fLen d)) :: (7, .u (UF.eq (.bool true))) :: []) hmix s (by kernel_rfl)
    (obs_cons (ok_fld (C := (CU.agg (fQV (m) (k) (d))).cf) 2 (by kernel_rfl)) <| obs_cons (ok_ld (C := (CU.agg (fQV (m) (k) (d))).cf) (k := 2) (by kernel_rfl) (h := qv_den)) <| obs_cons (ok_call1 wide_wide en_51 (fun u0 W hb (h0 : LV W (m) u0 (d)) => (rtrim_v h0 (by omega)))) <| obs_cons (ok_lenN (by kernel_rfl) (fun _ _ h => h)) <| obs_cons (ok_eql0 hz) <| obs_nil) fun a w2 s => ?_
  refine tail_end rfl ?_
  refine StS.cond s true (fun _ _ h => h) (fun e => ?_) (fun e => by cases e)
  refine wpIn_seq ?_
  replace s := s.drop [2]
  refine region_go 1 ((2, .u (UF.eq (.int .i64 (0)))) :: []) hmix s (by kernel_rfl)
    (obs_cons (ok_assign) <| obs_nil) fun a w3 s => ?_
  refine tail_end rfl ?_
  refine wpIn_ret ?_
  exact StS.res1 s (t := 2) rfl (fun _ _ h => h)

set_option maxRecDepth 100000 in
theorem r7sign_p {W : World} {m : Nat} {v : Value} {k : Int} {d : Nat} (h : QVp m k d v W) (hm : m ≤ 1000) (hd : 0 < d) : Calls Tryz.prog 16 #[v] W (Ret W (fI k.sign).toSF) := by
  have hz : false = decide (d = 0) := (decide_eq_false (by omega)).symm
  refine run_st [(fQV m k d).toSF] Tryz.func16 rfl (by kernel_rfl) ⟨h, trivial⟩ fun a s => ?_
  refine wpIn_seq ?_
  refine region_go 0 [] hmix s (by kernel_rfl)
    obs_nil fun a w1 s => ?_
  refine t_box (CU.agg (fQV (m) (k) (d))) rfl s (by kernel_rfl) (fun v W h => qv_box h) fun b1 a w s => ?_
  refine t_set (UF.eq (.int .i64 (0))) rfl s (by kernel_rfl) (fun _ _ h => h) fun a w s => ?_
  refine tail_end rfl ?_
  refine wpIn_seq ?_
  refine wpIn_seq ?_
  refine region_go 5 ((3, .s (SF.ptr ((CU.agg (fQV (m) (k) (d))).cf.at 2))) :: (4, .s ((fLV (m) (d)).toSF)) :: (5, .s ((fNat (d)).toSF)) :: (6, .s (fLen d)) :: (7, .u (UF.eq (.bool false))) :: []) hmix s (by kernel_rfl)
    (obs_cons (ok_fld (C := (CU.agg (fQV (m) (k) (d))).cf) 2 (by kernel_rfl)) <| obs_cons (ok_ld (C := (CU.agg (fQV (m) (k) (d))).cf) (k := 2) (by kernel_rfl) (h := qv_den)) <| obs_cons (ok_call1 wide_wide en_51 (fun u0 W hb (h0 : LV W (m) u0 (d)) => (rtrim_v h0 (by omega)))) <| obs_cons (ok_lenN (by kernel_rfl) (fun _ _ h => h)) <| obs_cons (ok_eql0 hz) <| obs_nil) fun a w2 s => ?_
  refine tail_end rfl ?_
  refine StS.cond s false (fun _ _ h => h) (fun e => by cases e) (fun e => ?_)
  refine wpIn_skip ?_
  refine wpIn_seq ?_
  replace s := s.drop [2]
  refine region_go 4 ((8, .s (SF.ptr ((CU.agg (fQV (m) (k) (d))).cf.at 0))) :: (9, .s ((fUV (m) (k)).toSF)) :: (10, .s ((UF.eq (.int .i64 (k.sign))).toSF)) :: (2, .u (UF.eq (.int .i64 (k.sign)))) :: []) hmix s (by kernel_rfl)
    (obs_cons (ok_fld (C := (CU.agg (fQV (m) (k) (d))).cf) 0 (by kernel_rfl)) <| obs_cons (ok_ldA (C := (CU.agg (fQV (m) (k) (d))).cf) (k := 0) 2 (by kernel_rfl) (h := qv_num)) <| obs_cons (ok_call1 wide_wide en_47 (fun u0 W hb (h0 : UV W (m) u0 (k)) => calls_eq (r5sign_v h0 (by omega)))) <| obs_cons (ok_assign) <| obs_nil) fun a w3 s => ?_
  refine tail_end rfl ?_
  refine wpIn_ret ?_
  exact StS.res1 s (t := 2) rfl (fun _ _ h => h)

theorem r7sign_q {W : World} {m : Nat} {v : Value} {q : Rat} (h : RVp m q v W) (hm : m ≤ 1000) : Calls Tryz.prog 16 #[v] W (Ret W (fI q.num.sign).toSF) := by
  obtain ⟨k, d, h1, rfl⟩ := h
  by_cases hd : d = 0
  · have := r7sign_z h1 hm hd
    rw [hd, Rat.mkRat_zero]
    exact this
  · rw [r7sign_mk k d (by omega)]
    exact r7sign_p h1 hm (by omega)

set_option maxRecDepth 100000 in
theorem r7two_q {W : World} {m : Nat} {u v : Value} {p q : Rat} (h : QNp p u W) (h' : QNp q v W) (hp : QB p m) (hq : QB q m) (hm : m ≤ 450) : Calls Tryz.prog 54 #[u, v] W (Ret W (fQN (p + q)).toSF) := by
  have hnew : ∀ W u0 u1, NV W u0 (((p).num * (((q).den : Nat) : Int)) + ((q).num * (((p).den : Nat) : Int))) → NatV W u1 ((p).den * (q).den) → Calls Tryz.prog 21 #[u0, u1] W (Ret W (fTup2 (fQN (p + q)) UF.any).toSF) := fun W u0 u1 h0 h1 => by
    have := r7new_v (m := m + m + 1) (h0.uv' (hp.num_add hq)) (h1.lv (Nat.lt_of_lt_of_le (hp.den_mul hq) (Nat.pow_le_pow_right BB_pos (by omega)))) (by omega)
    rw [← Rat.add_def' p q] at this
    exact this.mono fun e w' ⟨v, e1, ⟨x, y, e2, h2, _⟩, hb⟩ => ⟨v, e1, ⟨x, y, e2, h2, trivial⟩, hb⟩
  refine run_st [(fQN p).toSF, (fQN q).toSF] Tryz.func54 rfl (by kernel_rfl) ⟨h, h', trivial⟩ fun a s => ?_
  refine wpIn_seq ?_
  refine region_go 0 [] hmix s (by kernel_rfl)
    obs_nil fun a w1 s => ?_
  refine t_box (CU.agg (fQN (p))) rfl s (by kernel_rfl) (fun v W h => qn_box h) fun b2 a w s => ?_
  refine t_box (CU.agg (fQN (q))) rfl s (by kernel_rfl) (fun v W h => qn_box h) fun b3 a w s => ?_
  refine t_alloc (CU.len 3) (cs := [.bool false, .slice none 0 0, .slice none 0 0]) (by kernel_rfl) rfl s (by kernel_rfl) (fun W => rfl) rfl fun b4 a w s => ?_
  refine tail_end rfl ?_
  refine wpIn_seq ?_
  have so := s.old; have sg := s.gr
  refine region_goA2 (fun i => [24].contains i) [⟨25, 5, 27, [.bool false, .slice none 0 0, .slice none 0 0], SF.newBox w 27 (CU.len 3)⟩] 26 ((8, .s (SF.ptr ((CU.agg (fQN (p))).cf.at 0))) :: (9, .s ((fNV ((p).num)).toSF)) :: (10, .s (SF.ptr ((CU.agg (fQN (q))).cf.at 2))) :: (11, .s ((fNat ((q).den)).toSF)) :: (12, .s ((fNV ((((q).den : Nat) : Int))).toSF)) :: (13, .s (fISV ((m + m)) [(p).num, (((q).den : Nat) : Int)])) :: (14, .s ((fNV (((p).num * (((q).den : Nat) : Int)))).toSF)) :: (15, .s (SF.ptr ((CU.agg (fQN (q))).cf.at 0))) :: (16, .s ((fNV ((q).num)).toSF)) :: (17, .s (SF.ptr ((CU.agg (fQN (p))).cf.at 2))) :: (18, .s ((fNat ((p).den)).toSF)) :: (19, .s ((fNV ((((p).den : Nat) : Int))).toSF)) :: (20, .s (fISV ((m + m)) [(q).num, (((p).den : Nat) : Int)])) :: (21, .s ((fNV (((q).num * (((p).den : Nat) : Int)))).toSF)) :: (22, .s (fISV ((m + m)) [((p).num * (((q).den : Nat) : Int)), ((q).num * (((p).den : Nat) : Int))])) :: (23, .s ((fNV ((((p).num * (((q).den : Nat) : Int)) + ((q).num * (((p).den : Nat) : Int))))).toSF)) :: (24, .s (SF.ptr ((CU.agg (fQN (p))).cf.at 2))) :: (25, .s ((fNat ((p).den)).toSF)) :: (26, .s (SF.ptr ((CU.agg (fQN (q))).cf.at 2))) :: (27, .s ((fNat ((q).den)).toSF)) :: (28, .s ((fNat ((p).den * (q).den)).toSF)) :: (29, .s ((fTup2 (fQN ((p + q))) (UF.any)).toSF)) :: (7, .s ((fTup2 (fQN ((p + q))) (UF.any)).toSF)) :: (30, .u (fQN ((p + q)))) :: (5, .s (SF.newBox w 27 (CU.len 3))) :: []) hmix s (List.forall_mem_cons.2 ⟨⟨by show 25 < 26; decide, .tail _ (.tail _ (.tail _ (.tail _ (.tail _ (.tail _ (.tail _ (.tail _ (.tail _ (.tail _ (.tail _ (.tail _ (.tail _ (.tail _ (.tail _ (.tail _ (.tail _ (.tail _ (.tail _ (.tail _ (.tail _ (.tail _ (.tail _ (.tail _ (.head _)))))))))))))))))))))))), ⟨_, _, _, rfl⟩, by kernel_rfl, own_new (fun _ => rfl) rfl⟩, List.forall_mem_nil _⟩) (by kernel_rfl)
    (obs_cons (ok_fld (C := (CU.agg (fQN (p))).cf) 0 (by kernel_rfl)) <| obs_cons (ok_ldA (C := (CU.agg (fQN (p))).cf) (k := 0) 2 (by kernel_rfl) (h := qn_num)) <| obs_cons (ok_fld (C := (CU.agg (fQN (q))).cf) 2 (by kernel_rfl)) <| obs_cons (ok_ld (C := (CU.agg (fQN (q))).cf) (k := 2) (by kernel_rfl) (h := qn_den)) <| obs_cons (ok_call1 wide_wide en_50 (fun u0 W hb (h0 : NatV W u0 ((q).den)) => over_v h0)) <| obs_cons (ok_slice2 (fun u v W (hu : NV W u ((p).num)) (hv : NV W v ((((q).den : Nat) : Int))) => sl_int2 (NV.uv' hu (Bd.mono (hp).1 (m' := (m + m)) (by first | omega | decide))) (NV.uv' hv (Bd.mono (bd_nat hq.2) (m' := (m + m)) (by first | omega | decide))))) <| obs_cons (ok_call1 wide_wide en_49 (fun u0 W hb (h0 : ISV W ((m + m)) u0 [(p).num, (((q).den : Nat) : Int)]) => r5mul_w h0 (by show (m + m) * 2 + (m + m) + 1 ≤ 40000; omega) (by simp) (by simp))) <| obs_cons (ok_fld (C := (CU.agg (fQN (q))).cf) 0 (by kernel_rfl)) <| obs_cons (ok_ldA (C := (CU.agg (fQN (q))).cf) (k := 0) 2 (by kernel_rfl) (h := qn_num)) <| obs_cons (ok_fld (C := (CU.agg (fQN (p))).cf) 2 (by kernel_rfl)) <| obs_cons (ok_ld (C := (CU.agg (fQN (p))).cf) (k := 2) (by kernel_rfl) (h := qn_den)) <| obs_cons (ok_call1 wide_wide en_50 (fun u0 W hb (h0 : NatV W u0 ((p).den)) => over_v h0)) <| obs_cons (ok_slice2 (fun u v W (hu : NV W u ((q).num)) (hv : NV W v ((((p).den : Nat) : Int))) => sl_int2 (NV.uv' hu (Bd.mono (hq).1 (m' := (m + m)) (by first | omega | decide))) (NV.uv' hv (Bd.mono (bd_nat hp.2) (m' := (m + m)) (by first | omega | decide))))) <| obs_cons (ok_call1 wide_wide en_49 (fun u0 W hb (h0 : ISV W ((m + m)) u0 [(q).num, (((p).den : Nat) : Int)]) => r5mul_w h0 (by show (m + m) * 2 + (m + m) + 1 ≤ 40000; omega) (by simp) (by simp))) <| obs_cons (ok_slice2 (fun u v W (hu : NV W u (((p).num * (((q).den : Nat) : Int)))) (hv : NV W v (((q).num * (((p).den : Nat) : Int)))) => sl_int2 (NV.uv' hu (Bd.mul (hp).1 (bd_nat hq.2))) (NV.uv' hv (Bd.mul (hq).1 (bd_nat hp.2))))) <| obs_cons (ok_call1 wide_wide en_84 (fun u0 W hb (h0 : ISV W ((m + m)) u0 [((p).num * (((q).den : Nat) : Int)), ((q).num * (((p).den : Nat) : Int))]) => r5add_w h0 (by omega) (by simp) (by simp))) <| obs_cons (ok_fld (C := (CU.agg (fQN (p))).cf) 2 (by kernel_rfl)) <| obs_cons (ok_ld (C := (CU.agg (fQN (p))).cf) (k := 2) (by kernel_rfl) (h := qn_den)) <| obs_cons (ok_fld (C := (CU.agg (fQN (q))).cf) 2 (by kernel_rfl)) <| obs_cons (ok_ld (C := (CU.agg (fQN (q))).cf) (k := 2) (by kernel_rfl) (h := qn_den)) <| obs_cons (ok_call2 wide_wide en_56 (fun u0 u1 W hb (h0 : NatV W u0 ((p).den)) (h1 : NatV W u1 ((q).den)) => rmul_v (NatV.lv (m := m) h0 hp.2) (NatV.lv (m := m) h1 hq.2) (by omega))) <| obs_cons (ok_call2 wide_wide en_21 (fun u0 u1 W hb (h0 : NV W u0 ((((p).num * (((q).den : Nat) : Int)) + ((q).num * (((p).den : Nat) : Int))))) (h1 : NatV W u1 ((p).den * (q).den)) => hnew W u0 u1 h0 h1)) <| obs_cons (ok_move) <| obs_cons (ok_ext20 (A := (fQN ((p + q))).toSF) (B := (UF.any).toSF) (fun _ _ h => h)) <| obs_cons (ok_ext21 (A := (fQN ((p + q))).toSF) (B := (UF.any).toSF) (fun _ _ h => h)) <| obs_cons (ok_alloc (cs := [.bool false, .slice none 0 0, .slice none 0 0]) (by kernel_rfl) (own_new (fun _ => rfl) rfl)) <| obs_nil) fun Q' hQ a w2 s hr hd => ?_
  obtain ⟨b5, _, e5, s⟩ := s.adoptA false 5 (hr (_, _) (.tail _ (.tail _ (.tail _ (.tail _ (.tail _ (.tail _ (.tail _ (.tail _ (.tail _ (.tail _ (.tail _ (.tail _ (.tail _ (.tail _ (.tail _ (.tail _ (.tail _ (.tail _ (.tail _ (.tail _ (.tail _ (.tail _ (.tail _ (.tail _ (.head _)))))))))))))))))))))))))) sg (fun y hy => .inl (so y hy))
  refine t_store (CU.agg (fQN ((p + q)))) ((fQN ((p + q))).toSF) rfl s (by kernel_rfl) rfl rfl rfl (fun _ _ h => h) (fun _ _ h => h) (qn_store) fun a w s => ?_
  refine t_set UF.any rfl s (by kernel_rfl) (fun _ _ _ => trivial) fun a w s => ?_
  refine tail_end rfl (hQ _ _ ?_)
  refine wpIn_seq ?_
  refine region_go 1 ((32, .u (fQN ((p + q)))) :: []) hmix s (by kernel_rfl)
    (obs_cons (ok_ldW (f := fQN ((p + q))) 3 (by kernel_rfl) (hz := qn_len _)) <| obs_nil) fun a w3 s => ?_
  refine t_store (CU.agg (fQN ((p + q)))) ((fQN ((p + q))).toSF) rfl s (by kernel_rfl) rfl rfl rfl (fun _ _ h => h) (fun _ _ h => h) (qn_store) fun a w s => ?_
  refine tail_end rfl ?_
  refine wpIn_ret ?_
  exact StS.resC s (CU.agg (fQN (p + q))) rfl (by kernel_rfl) rfl rfl (qn_len _) (fun cs W h => h)

set_option maxRecDepth 100000 in
theorem r7neg_q {W : World} {m : Nat} {v : Value} {q : Rat} (h : RVp m q v W) (hm : m ≤ 450) (hm0 : 0 < m) : Calls Tryz.prog 32 #[v] W (Ret W (fQN (-q)).toSF) := by
  have hq : QB q m := h.qb hm0
  refine run_st [(fRV m q).toSF] Tryz.func32 rfl (by kernel_rfl) ⟨h, trivial⟩ fun a s => ?_
  refine wpIn_seq ?_
  refine region_go 0 [] hmix s (by kernel_rfl)
    obs_nil fun a w1 s => ?_
  refine t_box (CU.agg (fRV (m) (q))) rfl s (by kernel_rfl) (fun v W h => rv_box h) fun b1 a w s => ?_
  refine t_alloc (CU.len 3) (cs := [.bool false, .slice none 0 0, .slice none 0 0]) (by kernel_rfl) rfl s (by kernel_rfl) (fun W => rfl) rfl fun b2 a w s => ?_
  refine tail_end rfl ?_
  refine wpIn_seq ?_
  refine region_go 2 ((3, .s ((fRV (m) (q)).toSF)) :: (4, .u (fQN (q))) :: []) hmix s (by kernel_rfl)
    (obs_cons (ok_ldW (f := fRV (m) (q)) 3 (by kernel_rfl) (hz := rv_len _ _)) <| obs_cons (ok_call1 wide_wide en_30 (fun u0 W hb (h0 : RVp (m) (q) u0 W) => r7norm_q h0 (by omega))) <| obs_nil) fun a w2 s => ?_
  refine t_store (CU.agg (fQN (q))) ((fQN (q)).toSF) rfl s (by kernel_rfl) rfl rfl rfl (rv_len _ _) (fun _ _ h => h) (qn_store) fun a w s => ?_
  refine tail_end rfl ?_
  refine wpIn_seq ?_
  refine region_goP [] 6 ((5, .s (SF.ptr ((CU.agg (fQN (q))).cf.at 0))) :: (6, .s ((fNV ((q).num)).toSF)) :: (7, .s ((fNV ((-(q).num))).toSF)) :: (8, .s (SF.ptr ((CU.agg (fQN (q))).cf.at 2))) :: (9, .s ((fNat ((q).den)).toSF)) :: (10, .u (fQN ((-q)))) :: []) hmix s (by kernel_rfl)
    (obs_cons (ok_fld (C := (CU.agg (fQN (q))).cf) 0 (by kernel_rfl)) <| obs_cons (ok_ldA (C := (CU.agg (fQN (q))).cf) (k := 0) 2 (by kernel_rfl) (h := qn_num)) <| obs_cons (ok_call1 wide_wide en_70 (fun u0 W hb (h0 : NV W u0 ((q).num)) => r5neg_v (NV.uv' h0 (hq).1) (by omega))) <| obs_cons (ok_fld (C := (CU.agg (fQN (q))).cf) 2 (by kernel_rfl)) <| obs_cons (ok_ld (C := (CU.agg (fQN (q))).cf) (k := 2) (by kernel_rfl) (h := qn_den)) <| obs_cons (ok_build2 (fun u v W (hu : NV W u (-(q).num)) (hv : NatV W v ((q).den)) => b_ratN (q := -q) hu hv)) <| obs_nil) fun Q' hQ a w3 s => ?_
  refine t_store (CU.agg (fQN ((-q)))) ((fQN ((-q))).toSF) rfl s (by kernel_rfl) rfl rfl rfl (fun _ _ h => h) (fun _ _ h => h) (qn_store) fun a w s => ?_
  refine tail_end rfl (hQ _ _ ?_)
  refine wpIn_ret ?_
  exact StS.resC s (CU.agg (fQN (-q))) rfl (by kernel_rfl) rfl rfl (qn_len _) (fun cs W h => h)

set_option maxRecDepth 100000 in
theorem r7cmp_q {W : World} {m : Nat} {u v : Value} {p q : Rat} (h : RVp m p u W) (h' : RVp m q v W) (hm : m ≤ 450) (hm0 : 0 < m) : Calls Tryz.prog 8 #[u, v] W (Ret W (fI (qsg p q)).toSF) := by
  have hp : QB p m := h.qb hm0
  have hq : QB q m := h'.qb hm0
  refine run_st [(fRV m p).toSF, (fRV m q).toSF] Tryz.func8 rfl (by kernel_rfl) ⟨h, h', trivial⟩ fun a s => ?_
  refine wpIn_seq ?_
  refine region_go 0 [] hmix s (by kernel_rfl)
    obs_nil fun a w1 s => ?_
  refine t_box (CU.agg (fRV (m) (p))) rfl s (by kernel_rfl) (fun v W h => rv_box h) fun b2 a w s => ?_
  refine t_box (CU.agg (fRV (m) (q))) rfl s (by kernel_rfl) (fun v W h => rv_box h) fun b3 a w s => ?_
  refine t_set (UF.eq (.int .i64 (0))) rfl s (by kernel_rfl) (fun _ _ h => h) fun a w s => ?_
  refine tail_end rfl ?_
  refine wpIn_seq ?_
  refine region_goP [] 4 ((5, .s ((fRV (m) (p)).toSF)) :: (6, .u (fQN (p))) :: (7, .s ((fRV (m) (q)).toSF)) :: (8, .u (fQN (q))) :: []) hmix s (by kernel_rfl)
    (obs_cons (ok_ldW (f := fRV (m) (p)) 3 (by kernel_rfl) (hz := rv_len _ _)) <| obs_cons (ok_call1 wide_wide en_30 (fun u0 W hb (h0 : RVp (m) (p) u0 W) => r7norm_q h0 (by omega))) <| obs_cons (ok_ldW (f := fRV (m) (q)) 3 (by kernel_rfl) (hz := rv_len _ _)) <| obs_cons (ok_call1 wide_wide en_30 (fun u0 W hb (h0 : RVp (m) (q) u0 W) => r7norm_q h0 (by omega))) <| obs_nil) fun Q' hQ a w2 s => ?_
  refine t_store (CU.agg (fQN (p))) ((fQN (p)).toSF) rfl s (by kernel_rfl) rfl rfl rfl (rv_len _ _) (fun _ _ h => h) (qn_store) fun a w s => ?_
  refine t_store (CU.agg (fQN (q))) ((fQN (q)).toSF) rfl s (by kernel_rfl) rfl rfl rfl (rv_len _ _) (fun _ _ h => h) (qn_store) fun a w s => ?_
  refine tail_end rfl (hQ _ _ ?_)
  refine wpIn_seq ?_
  replace s := s.drop [4]
  refine region_go 17 ((9, .s (SF.ptr ((CU.agg (fQN (p))).cf.at 0))) :: (10, .s ((fNV ((p).num)).toSF)) :: (11, .s (SF.ptr ((CU.agg (fQN (q))).cf.at 2))) :: (12, .s ((fNat ((q).den)).toSF)) :: (13, .s ((fNV ((((q).den : Nat) : Int))).toSF)) :: (14, .s (fISV ((m + m)) [(p).num, (((q).den : Nat) : Int)])) :: (15, .s ((fNV (((p).num * (((q).den : Nat) : Int)))).toSF)) :: (16, .s (SF.ptr ((CU.agg (fQN (q))).cf.at 0))) :: (17, .s ((fNV ((q).num)).toSF)) :: (18, .s (SF.ptr ((CU.agg (fQN (p))).cf.at 2))) :: (19, .s ((fNat ((p).den)).toSF)) :: (20, .s ((fNV ((((p).den : Nat) : Int))).toSF)) :: (21, .s (fISV ((m + m)) [(q).num, (((p).den : Nat) : Int)])) :: (22, .s ((fNV (((q).num * (((p).den : Nat) : Int)))).toSF)) :: (23, .s ((fNV ((((p).num * (((q).den : Nat) : Int)) - ((q).num * (((p).den : Nat) : Int))))).toSF)) :: (24, .s ((UF.eq (.int .i64 (qsg p q))).toSF)) :: (4, .u (UF.eq (.int .i64 (qsg p q)))) :: []) hmix s (by kernel_rfl)
    (obs_cons (ok_fld (C := (CU.agg (fQN (p))).cf) 0 (by kernel_rfl)) <| obs_cons (ok_ldA (C := (CU.agg (fQN (p))).cf) (k := 0) 2 (by kernel_rfl) (h := qn_num)) <| obs_cons (ok_fld (C := (CU.agg (fQN (q))).cf) 2 (by kernel_rfl)) <| obs_cons (ok_ld (C := (CU.agg (fQN (q))).cf) (k := 2) (by kernel_rfl) (h := qn_den)) <| obs_cons (ok_call1 wide_wide en_50 (fun u0 W hb (h0 : NatV W u0 ((q).den)) => over_v h0)) <| obs_cons (ok_slice2 (fun u v W (hu : NV W u ((p).num)) (hv : NV W v ((((q).den : Nat) : Int))) => sl_int2 (NV.uv' hu (Bd.mono (hp).1 (m' := (m + m)) (by first | omega | decide))) (NV.uv' hv (Bd.mono (bd_nat hq.2) (m' := (m + m)) (by first | omega | decide))))) <| obs_cons (ok_call1 wide_wide en_49 (fun u0 W hb (h0 : ISV W ((m + m)) u0 [(p).num, (((q).den : Nat) : Int)]) => r5mul_w h0 (by show (m + m) * 2 + (m + m) + 1 ≤ 40000; omega) (by simp) (by simp))) <| obs_cons (ok_fld (C := (CU.agg (fQN (q))).cf) 0 (by kernel_rfl)) <| obs_cons (ok_ldA (C := (CU.agg (fQN (q))).cf) (k := 0) 2 (by kernel_rfl) (h := qn_num)) <| obs_cons (ok_fld (C := (CU.agg (fQN (p))).cf) 2 (by kernel_rfl)) <| obs_cons (ok_ld (C := (CU.agg (fQN (p))).cf) (k := 2) (by kernel_rfl) (h := qn_den)) <| obs_cons (ok_call1 wide_wide en_50 (fun u0 W hb (h0 : NatV W u0 ((p).den)) => over_v h0)) <| obs_cons (ok_slice2 (fun u v W (hu : NV W u ((q).num)) (hv : NV W v ((((p).den : Nat) : Int))) => sl_int2 (NV.uv' hu (Bd.mono (hq).1 (m' := (m + m)) (by first | omega | decide))) (NV.uv' hv (Bd.mono (bd_nat hp.2) (m' := (m + m)) (by first | omega | decide))))) <| obs_cons (ok_call1 wide_wide en_49 (fun u0 W hb (h0 : ISV W ((m + m)) u0 [(q).num, (((p).den : Nat) : Int)]) => r5mul_w h0 (by show (m + m) * 2 + (m + m) + 1 ≤ 40000; omega) (by simp) (by simp))) <| obs_cons (ok_call2 wide_wide en_48 (fun u0 u1 W hb (h0 : NV W u0 (((p).num * (((q).den : Nat) : Int)))) (h1 : NV W u1 (((q).num * (((p).den : Nat) : Int)))) => r5sub_v (NV.uv' h0 (Bd.mul (hp).1 (bd_nat hq.2))) (NV.uv' h1 (Bd.mul (hq).1 (bd_nat hp.2))) (by omega))) <| obs_cons (ok_call1 wide_wide en_47 (fun u0 W hb (h0 : NV W u0 ((((p).num * (((q).den : Nat) : Int)) - ((q).num * (((p).den : Nat) : Int))))) => calls_eq (r5sign_v (NV.uv' h0 (Bd.sub (Bd.mul (hp).1 (bd_nat hq.2)) (Bd.mul (hq).1 (bd_nat hp.2)))) (by omega)))) <| obs_cons (ok_assign) <| obs_nil) fun a w3 s => ?_
  refine tail_end rfl ?_
  refine wpIn_ret ?_
  exact StS.res1 s (t := 4) rfl (fun _ _ h => h)

set_option maxRecDepth 100000 in
theorem r7same_q {W : World} {m : Nat} {u v : Value} {p q : Rat} (h : RVp m p u W) (h' : RVp m q v W) (hm : m ≤ 450) (hm0 : 0 < m) : Calls Tryz.prog 27 #[u, v] W (Ret W (fB (qsg p q == 0)).toSF) := by
  refine run_st [(fRV m p).toSF, (fRV m q).toSF] Tryz.func27 rfl (by kernel_rfl) ⟨h, h', trivial⟩ fun a s => ?_
  refine wpIn_seq ?_
  refine region_go 0 [] hmix s (by kernel_rfl)
    obs_nil fun a w1 s => ?_
  refine t_box (CU.agg (fRV (m) (p))) rfl s (by kernel_rfl) (fun v W h => rv_box h) fun b2 a w s => ?_
  refine t_box (CU.agg (fRV (m) (q))) rfl s (by kernel_rfl) (fun v W h => rv_box h) fun b3 a w s => ?_
  refine t_set (UF.eq (.bool false)) rfl s (by kernel_rfl) (fun _ _ h => h) fun a w s => ?_
  refine tail_end rfl ?_
  refine wpIn_seq ?_
  replace s := s.drop [4]
  refine region_go 5 ((5, .s ((fRV (m) (p)).toSF)) :: (6, .s ((fRV (m) (q)).toSF)) :: (7, .s ((UF.eq (.int .i64 ((qsg p q)))).toSF)) :: (8, .s ((UF.eq (.bool ((qsg p q) == 0))).toSF)) :: (4, .u (UF.eq (.bool ((qsg p q) == 0)))) :: []) hmix s (by kernel_rfl)
    (obs_cons (ok_ldW (f := fRV (m) (p)) 3 (by kernel_rfl) (hz := rv_len _ _)) <| obs_cons (ok_ldW (f := fRV (m) (q)) 3 (by kernel_rfl) (hz := rv_len _ _)) <| obs_cons (ok_call2 wide_wide en_8 (fun u0 u1 W hb (h0 : RVp (m) (p) u0 W) (h1 : RVp (m) (q) u1 W) => r7cmp_q h0 h1 hm hm0)) <| obs_cons (ok_cmpI .i64 ((qsg p q)) (0) ((qsg p q) == 0) (fun _ _ h => h) (fun _ _ h => h) rfl rfl) <| obs_cons (ok_assign) <| obs_nil) fun a w2 s => ?_
  refine tail_end rfl ?_
  refine wpIn_ret ?_
  exact StS.res1 s (t := 4) rfl (fun _ _ h => h)

set_option maxRecDepth 100000 in
theorem r7quo_q {W : World} {m : Nat} {u v : Value} {p q : Rat} (h : RVp m p u W) (h' : RVp m q v W) (hm : m ≤ 450) (hm0 : 0 < m) : Calls Tryz.prog 23 #[u, v] W (Ret W (fTup2 (fQN (p / q)) (fI (if q = 0 then 30 else 0))).toSF) := by
  have hp : QB p m := h.qb hm0
  have hq : QB q m := h'.qb hm0
  have bk2 : Bd (if decide ((q).num < 0) then -(((q).den : Nat) : Int) else (((q).den : Nat) : Int)) m := by split; exact (bd_nat hq.2).neg; exact bd_nat hq.2
  have hval : mkRat ((p).num * (if decide ((q).num < 0) then -(((q).den : Nat) : Int) else (((q).den : Nat) : Int))) ((p).den * (q).num.natAbs) = p / q := rat_quo p q
  have herr : ((p).den * (q).num.natAbs = 0) = (q = 0) := by rw [Nat.mul_eq_zero, Int.natAbs_eq_zero, Rat.num_eq_zero]; have := p.den_pos; simp; omega
  have hnew : ∀ W u0 u1, NV W u0 ((p).num * (if decide ((q).num < 0) then -(((q).den : Nat) : Int) else (((q).den : Nat) : Int))) → NatV W u1 ((p).den * (q).num.natAbs) → Calls Tryz.prog 21 #[u0, u1] W (Ret W (fTup2 (fQN (p / q)) (fI (if q = 0 then 30 else 0))).toSF) := fun W u0 u1 h0 h1 => by
    have := r7new_v (m := m + m) (h0.uv' (Bd.mul hp.1 bk2)) (h1.lv (pow_mul_lt hp.2 hq.1)) (by omega)
    simp only [hval, herr] at this
    exact this
  refine run_st [(fRV m p).toSF, (fRV m q).toSF] Tryz.func23 rfl (by kernel_rfl) ⟨h, h', trivial⟩ fun a s => ?_
  refine wpIn_seq ?_
  refine region_go 0 [] hmix s (by kernel_rfl)
    obs_nil fun a w1 s => ?_
  refine t_box (CU.agg (fRV (m) (p))) rfl s (by kernel_rfl) (fun v W h => rv_box h) fun b2 a w s => ?_
  refine t_box (CU.agg (fRV (m) (q))) rfl s (by kernel_rfl) (fun v W h => rv_box h) fun b3 a w s => ?_
  refine t_alloc (CU.len 3) (cs := [.bool false, .slice none 0 0, .slice none 0 0]) (by kernel_rfl) rfl s (by kernel_rfl) (fun W => rfl) rfl fun b4 a w s => ?_
  refine t_set (UF.eq (.int .i64 (0))) rfl s (by kernel_rfl) (fun _ _ h => h) fun a w s => ?_
  refine tail_end rfl ?_
  refine wpIn_seq ?_
  refine region_goP [] 4 ((6, .s ((fRV (m) (p)).toSF)) :: (7, .u (fQN (p))) :: (8, .s ((fRV (m) (q)).toSF)) :: (9, .u (fQN (q))) :: []) hmix s (by kernel_rfl)
    (obs_cons (ok_ldW (f := fRV (m) (p)) 3 (by kernel_rfl) (hz := rv_len _ _)) <| obs_cons (ok_call1 wide_wide en_30 (fun u0 W hb (h0 : RVp (m) (p) u0 W) => r7norm_q h0 (by omega))) <| obs_cons (ok_ldW (f := fRV (m) (q)) 3 (by kernel_rfl) (hz := rv_len _ _)) <| obs_cons (ok_call1 wide_wide en_30 (fun u0 W hb (h0 : RVp (m) (q) u0 W) => r7norm_q h0 (by omega))) <| obs_nil) fun Q' hQ a w2 s => ?_
  refine t_store (CU.agg (fQN (p))) ((fQN (p)).toSF) rfl s (by kernel_rfl) rfl rfl rfl (rv_len _ _) (fun _ _ h => h) (qn_store) fun a w s => ?_
  refine t_store (CU.agg (fQN (q))) ((fQN (q)).toSF) rfl s (by kernel_rfl) rfl rfl rfl (rv_len _ _) (fun _ _ h => h) (qn_store) fun a w s => ?_
  refine tail_end rfl (hQ _ _ ?_)
  refine wpIn_seq ?_
  replace s := s.drop [5]
  refine region_goP [] 19 ((10, .s (SF.ptr ((CU.agg (fQN (p))).cf.at 0))) :: (11, .s ((fNV ((p).num)).toSF)) :: (12, .s (SF.ptr ((CU.agg (fQN (q))).cf.at 0))) :: (13, .s (SF.ptr ((CU.agg (fQN (q))).cf.at 0))) :: (14, .s ((UF.eq (.bool (decide ((q).num < 0)))).toSF)) :: (15, .s (SF.ptr ((CU.agg (fQN (q))).cf.at 2))) :: (16, .s ((fNat ((q).den)).toSF)) :: (17, .s ((fUV (m) ((if decide ((q).num < 0) then -(((q).den : Nat) : Int) else (((q).den : Nat) : Int)))).toSF)) :: (18, .s (fISV ((m + m)) [(p).num, (if decide ((q).num < 0) then -(((q).den : Nat) : Int) else (((q).den : Nat) : Int))])) :: (19, .s ((fNV (((p).num * (if decide ((q).num < 0) then -(((q).den : Nat) : Int) else (((q).den : Nat) : Int))))).toSF)) :: (20, .s (SF.ptr ((CU.agg (fQN (p))).cf.at 2))) :: (21, .s ((fNat ((p).den)).toSF)) :: (22, .s (SF.ptr ((CU.agg (fQN (q))).cf.at 0))) :: (23, .s (SF.ptr ((CU.agg (fQN (q))).cf.at 1))) :: (24, .s ((fNat ((q).num.natAbs)).toSF)) :: (25, .s ((fNat ((p).den * (q).num.natAbs)).toSF)) :: (26, .s ((fTup2 (fQN ((p / q))) (UF.eq (.int .i64 ((if q = 0 then 30 else 0))))).toSF)) :: (27, .u (fQN ((p / q)))) :: (28, .u (UF.eq (.int .i64 ((if q = 0 then 30 else 0))))) :: []) hmix s (by kernel_rfl)
    (obs_cons (ok_fld (C := (CU.agg (fQN (p))).cf) 0 (by kernel_rfl)) <| obs_cons (ok_ldA (C := (CU.agg (fQN (p))).cf) (k := 0) 2 (by kernel_rfl) (h := qn_num)) <| obs_cons (ok_fld (C := (CU.agg (fQN (q))).cf) 0 (by kernel_rfl)) <| obs_cons (ok_fldn (C := (CU.agg (fQN (q))).cf) 0 0 (by kernel_rfl)) <| obs_cons (ok_ld (C := (CU.agg (fQN (q))).cf) (k := 0) (by kernel_rfl) (h := qn_neg)) <| obs_cons (ok_fld (C := (CU.agg (fQN (q))).cf) 2 (by kernel_rfl)) <| obs_cons (ok_ld (C := (CU.agg (fQN (q))).cf) (k := 2) (by kernel_rfl) (h := qn_den)) <| obs_cons (ok_build2 (fun u v W (hu : u = .bool (decide ((q).num < 0))) (hv : NatV W v ((q).den)) => b_int hu hv hq.2)) <| obs_cons (ok_slice2 (fun u v W (hu : NV W u ((p).num)) (hv : UV W (m) v ((if decide ((q).num < 0) then -(((q).den : Nat) : Int) else (((q).den : Nat) : Int)))) => sl_int2 (NV.uv' hu (Bd.mono (hp).1 (m' := (m + m)) (by first | omega | decide))) (UV.mono hv (m' := (m + m)) (by first | omega | decide)))) <| obs_cons (ok_call1 wide_wide en_49 (fun u0 W hb (h0 : ISV W ((m + m)) u0 [(p).num, (if decide ((q).num < 0) then -(((q).den : Nat) : Int) else (((q).den : Nat) : Int))]) => r5mul_w h0 (by show (m + m) * 2 + (m + m) + 1 ≤ 40000; omega) (by simp) (by simp))) <| obs_cons (ok_fld (C := (CU.agg (fQN (p))).cf) 2 (by kernel_rfl)) <| obs_cons (ok_ld (C := (CU.agg (fQN (p))).cf) (k := 2) (by kernel_rfl) (h := qn_den)) <| obs_cons (ok_fld (C := (CU.agg (fQN (q))).cf) 0 (by kernel_rfl)) <| obs_cons (ok_fldn (C := (CU.agg (fQN (q))).cf) 0 1 (by kernel_rfl)) <| obs_cons (ok_ld (C := (CU.agg (fQN (q))).cf) (k := 1) (by kernel_rfl) (h := qn_abs)) <| obs_cons (ok_call2 wide_wide en_56 (fun u0 u1 W hb (h0 : NatV W u0 ((p).den)) (h1 : NatV W u1 ((q).num.natAbs)) => rmul_v (NatV.lv (m := m) h0 hp.2) (NatV.lv (m := m) h1 hq.1) (by omega))) <| obs_cons (ok_call2 wide_wide en_21 (fun u0 u1 W hb (h0 : NV W u0 (((p).num * (if decide ((q).num < 0) then -(((q).den : Nat) : Int) else (((q).den : Nat) : Int))))) (h1 : NatV W u1 ((p).den * (q).num.natAbs)) => hnew W u0 u1 h0 h1)) <| obs_cons (ok_ext20 (A := (fQN ((p / q))).toSF) (B := (UF.eq (.int .i64 ((if q = 0 then 30 else 0)))).toSF) (fun _ _ h => h)) <| obs_cons (ok_ext21 (A := (fQN ((p / q))).toSF) (B := (UF.eq (.int .i64 ((if q = 0 then 30 else 0)))).toSF) (fun _ _ h => h)) <| obs_nil) fun Q' hQ a w3 s => ?_
  refine t_store (CU.agg (fQN ((p / q)))) ((fQN ((p / q))).toSF) rfl s (by kernel_rfl) rfl rfl rfl (fun _ _ h => h) (fun _ _ h => h) (qn_store) fun a w s => ?_
  refine t_set (UF.eq (.int .i64 ((if q = 0 then 30 else 0)))) rfl s (by kernel_rfl) (fun _ _ h => h) fun a w s => ?_
  refine tail_end rfl (hQ _ _ ?_)
  refine wpIn_ret ?_
  exact StS.resCT s (CU.agg (fQN (p / q))) rfl (by kernel_rfl) rfl rfl (qn_len _) (fun cs v W h1 h2 => ⟨_, _, rfl, h1, h2⟩)

theorem floor_rest_pos {r b : Int} (h : FloorRest r b) (hb : 0 < b) : 0 ≤ r ∧ r < b := by
  unfold FloorRest at h
  omega
theorem r5divp_v {W : World} {m : Nat} {v v' : Value} {k k' : Int} (h : UV W m v k) (h' : UV W m v' k') (hm : m ≤ 1000) (h0 : 0 < k') : Calls Tryz.prog 55 #[v, v'] W (Ret W (fTup3 (fNV (k / k')) (fNV (k % k')) (fI 0)).toSF) := by
  refine (r5div_v h h' hm (by omega)).mono ?_
  rintro e w' ⟨q, r, v1, v2, rfl, h1, h2, h3, h4, hb⟩
  have h5 := floor_rest_pos h2 h0
  have hq : q = k / k' := by
    rw [h1, Int.mul_comm, Int.add_comm, Int.add_mul_ediv_left _ _ (by omega), Int.ediv_eq_zero_of_lt h5.1 h5.2, Int.zero_add]
  have hr : r = k % k' := by
    rw [h1, Int.mul_comm, Int.add_comm, Int.add_mul_emod_self_left, Int.emod_eq_of_lt h5.1 h5.2]
  subst hq
  subst hr
  exact ⟨_, rfl, ⟨v1, v2, _, rfl, h3, h4, rfl⟩, hb⟩

set_option maxRecDepth 100000 in
theorem r7floor_q {W : World} {m : Nat} {v : Value} {q : Rat} (h : RVp m q v W) (hm : m ≤ 450) (hm0 : 0 < m) : Calls Tryz.prog 18 #[v] W (Ret W (fNV (q.num / (q.den : Int))).toSF) := by
  have hq : QB q m := h.qb hm0
  refine run_st [(fRV m q).toSF] Tryz.func18 rfl (by kernel_rfl) ⟨h, trivial⟩ fun a s => ?_
  refine wpIn_seq ?_
  refine region_go 0 [] hmix s (by kernel_rfl)
    obs_nil fun a w1 s => ?_
  refine t_box (CU.agg (fRV (m) (q))) rfl s (by kernel_rfl) (fun v W h => rv_box h) fun b1 a w s => ?_
  refine t_alloc (CU.len 2) (cs := [.bool false, .slice none 0 0]) (by kernel_rfl) rfl s (by kernel_rfl) (fun W => rfl) rfl fun b2 a w s => ?_
  refine tail_end rfl ?_
  refine wpIn_seq ?_
  refine region_go 2 ((6, .s ((fRV (m) (q)).toSF)) :: (7, .u (fQN (q))) :: []) hmix s (by kernel_rfl)
    (obs_cons (ok_ldW (f := fRV (m) (q)) 3 (by kernel_rfl) (hz := rv_len _ _)) <| obs_cons (ok_call1 wide_wide en_30 (fun u0 W hb (h0 : RVp (m) (q) u0 W) => r7norm_q h0 (by omega))) <| obs_nil) fun a w2 s => ?_
  refine t_store (CU.agg (fQN (q))) ((fQN (q)).toSF) rfl s (by kernel_rfl) rfl rfl rfl (rv_len _ _) (fun _ _ h => h) (qn_store) fun a w s => ?_
  refine tail_end rfl ?_
  refine wpIn_seq ?_
  have so := s.old; have sg := s.gr
  refine region_goA2 (fun i => [8, 9].contains i) [⟨10, 3, 25, [.bool false, .slice none 0 0], SF.newBox w 25 (CU.len 2)⟩, ⟨11, 4, 25, [.bool false, .slice none 0 0], SF.newBox w 25 (CU.len 2)⟩] 12 ((9, .s (SF.ptr ((CU.agg (fQN (q))).cf.at 0))) :: (10, .s ((fNV ((q).num)).toSF)) :: (11, .s (SF.ptr ((CU.agg (fQN (q))).cf.at 2))) :: (12, .s ((fNat ((q).den)).toSF)) :: (13, .s ((fNV ((((q).den : Nat) : Int))).toSF)) :: (14, .s ((fTup3 (fNV (((q).num / (((q).den : Nat) : Int)))) (fNV (((q).num % (((q).den : Nat) : Int)))) (UF.eq (.int .i64 (0)))).toSF)) :: (8, .s ((fTup3 (fNV (((q).num / (((q).den : Nat) : Int)))) (fNV (((q).num % (((q).den : Nat) : Int)))) (UF.eq (.int .i64 (0)))).toSF)) :: (15, .u (fNV (((q).num / (((q).den : Nat) : Int))))) :: (16, .u (fNV (((q).num % (((q).den : Nat) : Int))))) :: (17, .u (UF.eq (.int .i64 (0)))) :: (3, .s (SF.newBox w 25 (CU.len 2))) :: (4, .s (SF.newBox w 25 (CU.len 2))) :: []) hmix s (List.forall_mem_cons.2 ⟨⟨by show 10 < 12; decide, .tail _ (.tail _ (.tail _ (.tail _ (.tail _ (.tail _ (.tail _ (.tail _ (.tail _ (.tail _ (.head _)))))))))), ⟨_, _, _, rfl⟩, by kernel_rfl, own_new (fun _ => rfl) rfl⟩, List.forall_mem_cons.2 ⟨⟨by show 11 < 12; decide, .tail _ (.tail _ (.tail _ (.tail _ (.tail _ (.tail _ (.tail _ (.tail _ (.tail _ (.tail _ (.tail _ (.head _))))))))))), ⟨_, _, _, rfl⟩, by kernel_rfl, own_new (fun _ => rfl) rfl⟩, List.forall_mem_nil _⟩⟩) (by kernel_rfl)
    (obs_cons (ok_fld (C := (CU.agg (fQN (q))).cf) 0 (by kernel_rfl)) <| obs_cons (ok_ldA (C := (CU.agg (fQN (q))).cf) (k := 0) 2 (by kernel_rfl) (h := qn_num)) <| obs_cons (ok_fld (C := (CU.agg (fQN (q))).cf) 2 (by kernel_rfl)) <| obs_cons (ok_ld (C := (CU.agg (fQN (q))).cf) (k := 2) (by kernel_rfl) (h := qn_den)) <| obs_cons (ok_call1 wide_wide en_50 (fun u0 W hb (h0 : NatV W u0 ((q).den)) => over_v h0)) <| obs_cons (ok_call2 wide_wide en_55 (fun u0 u1 W hb (h0 : NV W u0 ((q).num)) (h1 : NV W u1 ((((q).den : Nat) : Int))) => r5divp_v (NV.uv' h0 (hq).1) (NV.uv' h1 (bd_nat hq.2)) (by omega) (by have := q.den_pos; omega))) <| obs_cons (ok_move) <| obs_cons (ok_ext30 (A := (fNV (((q).num / (((q).den : Nat) : Int)))).toSF) (B := (fNV (((q).num % (((q).den : Nat) : Int)))).toSF) (C := (UF.eq (.int .i64 (0))).toSF) (fun _ _ h => h)) <| obs_cons (ok_ext31 (A := (fNV (((q).num / (((q).den : Nat) : Int)))).toSF) (B := (fNV (((q).num % (((q).den : Nat) : Int)))).toSF) (C := (UF.eq (.int .i64 (0))).toSF) (fun _ _ h => h)) <| obs_cons (ok_ext32 (A := (fNV (((q).num / (((q).den : Nat) : Int)))).toSF) (B := (fNV (((q).num % (((q).den : Nat) : Int)))).toSF) (C := (UF.eq (.int .i64 (0))).toSF) (fun _ _ h => h)) <| obs_cons (ok_alloc (cs := [.bool false, .slice none 0 0]) (by kernel_rfl) (own_new (fun _ => rfl) rfl)) <| obs_cons (ok_alloc (cs := [.bool false, .slice none 0 0]) (by kernel_rfl) (own_new (fun _ => rfl) rfl)) <| obs_nil) fun Q' hQ a w3 s hr hd => ?_
  obtain ⟨b3, _, e3, s⟩ := s.adoptA false 3 (hr (_, _) (.tail _ (.tail _ (.tail _ (.tail _ (.tail _ (.tail _ (.tail _ (.tail _ (.tail _ (.tail _ (.head _)))))))))))) sg (fun y hy => .inl (so y hy))
  obtain ⟨b4, _, e4, s⟩ := s.adoptA false 4 (hr (_, _) (.tail _ (.tail _ (.tail _ (.tail _ (.tail _ (.tail _ (.tail _ (.tail _ (.tail _ (.tail _ (.tail _ (.head _))))))))))))) sg (fun y hy => by rcases List.mem_cons.1 hy with rfl | hy; exact .inr (.inr fun b hb => hd _ _ (.head _) (.tail _ (.head _)) (by show 10 ≠ 11; decide) _ _ e3 hb); exact .inl (so y hy))
  refine t_store (CU.agg (fNV (((q).num / (((q).den : Nat) : Int))))) ((fNV (((q).num / (((q).den : Nat) : Int)))).toSF) rfl s (by kernel_rfl) rfl rfl rfl (fun _ _ h => h) (fun _ _ h => h) (nv_store) fun a w s => ?_
  refine t_store (CU.agg (fNV (((q).num % (((q).den : Nat) : Int))))) ((fNV (((q).num % (((q).den : Nat) : Int)))).toSF) rfl s (by kernel_rfl) rfl rfl rfl (fun _ _ h => h) (fun _ _ h => h) (nv_store) fun a w s => ?_
  refine t_set (UF.eq (.int .i64 (0))) rfl s (by kernel_rfl) (fun _ _ h => h) fun a w s => ?_
  refine tail_end rfl (hQ _ _ ?_)
  refine wpIn_seq ?_
  refine region_go 1 ((18, .u (fNV (((q).num / (((q).den : Nat) : Int))))) :: []) hmix s (by kernel_rfl)
    (obs_cons (ok_ldW (f := fNV (((q).num / (((q).den : Nat) : Int)))) 2 (by kernel_rfl) (hz := nv_len _)) <| obs_nil) fun a w4 s => ?_
  refine t_store (CU.agg (fNV (((q).num / (((q).den : Nat) : Int))))) ((fNV (((q).num / (((q).den : Nat) : Int)))).toSF) rfl s (by kernel_rfl) rfl rfl rfl (fun _ _ h => h) (fun _ _ h => h) (nv_store) fun a w s => ?_
  refine tail_end rfl ?_
  refine wpIn_ret ?_
  exact StS.resC s (CU.agg (fNV (q.num / (q.den : Int)))) rfl (by kernel_rfl) rfl rfl (nv_len _) (fun cs W h => h)

end Go.Proofs.Wd


namespace Go.Proofs.Wd
open Go.RowKit Lb

abbrev QX.q (x : QX) : Rat := mkRat x.k x.d
theorem qx_form {n n' : Nat} {k : Int} {d : Nat} {v : Value} {W : World} (h : (fQX n n' k d).p v W) : ∃ s A c A' c', v = .agg #[.bool s, .slice A n c, .slice A' n' c'] := by
  obtain ⟨b, s, t, rfl, ⟨sg, A, c, l, e1, _⟩, A', c', l', rfl, _⟩ := h
  have := congrArg Array.toList (agg_inj e1)
  simp at this
  rw [this.1, this.2]
  exact ⟨_, _, _, _, _, rfl⟩
theorem qx_box {n n' : Nat} {k : Int} {d : Nat} {v : Value} {W : World} (h : (fQX n n' k d).p v W) : (CU.agg (fQX n n' k d)).p v.cells.toList W ∧ v.cells.toList.all noLimb = true := by
  obtain ⟨sg, A, c, A', c', rfl⟩ := qx_form h
  exact ⟨h, rfl⟩
theorem rv_x {n n' m : Nat} {k : Int} {d : Nat} {v : Value} {W : World} (h : QXp n n' k d v W) (h1 : n ≤ m) (h2 : n' ≤ m) : RVp m (mkRat k d) v W := ⟨k, d, qx_qv h h1 h2, rfl⟩
theorem QXp.qb {x : QX} {v : Value} {W : World} (h : QXp x.n x.n' x.k x.d v W) (hg : x.n ≤ 40 ∧ x.n' ≤ 40) : QB x.q 40 := (rv_x h hg.1 hg.2).qb (by omega)
theorem mem_part {W : World} {b o : Nat} {cs ds : List Value} (k : Nat) (h : Mem W b o cs) (hd : ∀ j u, ds[j]? = some u → cs[k + j]? = some u) : Mem W b (o + k) ds := fun j u hj => by
  have := h (k + j) u (hd j u hj)
  rwa [← Nat.add_assoc] at this
theorem rof_w {W : World} {v : Value} (z : Int) (hv : v = .int .i64 z) (hz : -9223372036854775808 ≤ z ∧ z ≤ 9223372036854775807) : Calls Tryz.prog 28 #[v] W (Ret W (fQN (z : Rat)).toSF) := by
  subst hv
  exact rof_v z hz
theorem ok_mulI {F : Fence} {m : Nat} {P : Program} {w0 : World} {ops : Array Oper} {G : Nat → SF} {d : Tmp} {ty : TypeId} {pos : String} {aft : Array Edge} {t : TypeId} {x y : Operand} {t' : TypeId} (k : IntKind) (u v r : Int) (hx : ∀ q W, (fct G x).p q W → q = .int k u) (hy : ∀ q W, (fct G y).p q W → q = .int k v) (hr : k.wrap (u * v) = r) (hd : ∀ W, (G d).p (.int k r) W := by exact fun _ => rfl) : GdOK F m P w0 ops G ⟨some d, .binOp .mul t x y t', ty, pos, aft, none⟩ :=
  ok_bin (.int k u) (.int k v) (.int k r) hx hy (fun W => by simp [eqGuard]) (fun W => by simp [binOp, Op.intArith, hr]) hd
theorem s_rats2 (s0 : Bool) (A0 D0 : Option Addr) (n0 c0 i0 j0 : Nat) (s1 : Bool) (A1 D1 : Option Addr) (n1 c1 i1 j1 : Nat) : sliceCells Tryz.prog 44 2 [(0, .agg #[.bool s0, .slice A0 n0 c0, .slice D0 i0 j0]), (1, .agg #[.bool s1, .slice A1 n1 c1, .slice D1 i1 j1])] = some (27, #[.bool s0, .slice A0 n0 c0, .slice D0 i0 j0, .bool s1, .slice A1 n1 c1, .slice D1 i1 j1]) := by kernel_rfl
theorem sl_qx2 {u v : Value} {W : World} {a b : QX} (h0 : (fQX a.n a.n' a.k a.d).p u W) (h1 : (fQX b.n b.n' b.k b.d).p v W) : ∃ e cs, sliceCells Tryz.prog 44 2 [(0, u), (1, v)] = some (e, cs) ∧ (SF.row 3 ([a, b].map QX.cu)).p (.slice (some ⟨W.heap.size, 0, none⟩) 2 2) (W.alloc (.cells cs e)) := by
  obtain ⟨s0, A0, c0, D0, j0, rfl⟩ := qx_form h0
  obtain ⟨s1, A1, c1, D1, j1, rfl⟩ := qx_form h1
  refine ⟨_, _, s_rats2 s0 A0 D0 a.n c0 a.n' j0 s1 A1 D1 b.n c1 b.n' j1, some ⟨W.heap.size, 0, none⟩, 2, rfl, Nat.le_refl _, by decide, fun e => (by cases e), fun x C hx => ?_⟩
  have hb := alloc_b W (.cells #[.bool s0, .slice A0 a.n c0, .slice D0 a.n' j0, .bool s1, .slice A1 b.n c1, .slice D1 b.n' j1] 27)
  have hm := mem_new W #[.bool s0, .slice A0 a.n c0, .slice D0 a.n' j0, .bool s1, .slice A1 b.n c1, .slice D1 b.n' j1] 27
  rcases (by have := (List.getElem?_eq_some_iff.1 hx).1; simp at this; omega : x = 0 ∨ x = 1) with rfl | rfl
  · obtain rfl : QX.cu a = C := by simpa using hx
    exact ⟨W.heap.size, 0, [.bool s0, .slice A0 a.n c0, .slice D0 a.n' j0], rfl, mem_part (0) hm (fun j u hj => by match j with | 0 => exact hj | 1 => exact hj | 2 => exact hj | j + 3 => simp at hj), (fQX a.n a.n' a.k a.d).toSF.st _ _ _ h0 hb⟩
  · obtain rfl : QX.cu b = C := by simpa using hx
    exact ⟨W.heap.size, 0, [.bool s1, .slice A1 b.n c1, .slice D1 b.n' j1], rfl, mem_part (3) hm (fun j u hj => by match j with | 0 => exact hj | 1 => exact hj | 2 => exact hj | j + 3 => simp at hj), (fQX b.n b.n' b.k b.d).toSF.st _ _ _ h1 hb⟩
end Go.Proofs.Wd

