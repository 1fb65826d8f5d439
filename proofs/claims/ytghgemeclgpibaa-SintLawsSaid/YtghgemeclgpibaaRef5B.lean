/- Walks of straitref05: Sign, two. -/
import Derived.Test.YtghgemeclgpibaaRef5A
import Derived.Test.YtghgemeclgpibaaRef2
namespace Go.Proofs.Wd
open Go.RowKit Lb
attribute [local go_sem] Oper.semAt_some wide_fn wide_depth

theorem iv_same {s : Bool} {l l' l3 : List Nat} (h : val l3 = val l + val l') : iv s l3 = iv s l + iv s l' := by
  unfold iv
  cases s <;> simp <;> omega
theorem iv_diff {s s' : Bool} {l l' l3 : List Nat} (hs : s ≠ s') (h : val l3 = val l - val l') (hge : val l' ≤ val l) : iv s l3 = iv s l + iv s' l' := by
  unfold iv
  cases s <;> cases s' <;> simp at hs ⊢ <;> omega
theorem iv_mul {s s' : Bool} {l l' l3 : List Nat} (h : val l3 = val l * val l') : iv (s != s') l3 = iv s l * iv s' l' := by
  have e : (val l3 : Int) = (val l : Int) * (val l' : Int) := by rw [h, Int.natCast_mul]
  unfold iv
  cases s <;> cases s' <;> simp [e, Int.neg_mul, Int.mul_neg]

set_option maxHeartbeats 1000000 in
theorem r5sign_any (s : Bool) (A : Option Addr) (n c : Nat) (l : List Nat) (w : World) (h : Rd w A n c l) (ht : Lt l) (hl : n ≤ 1099511627776) :
    Calls Try.prog 11 #[.agg #[.bool s, .slice A n c]] w fun e w' => e = .returned (.int .i64 (iv s l).sign) ∧ Below w.heap.size w w' := by
  have hb0 := (Below.refl _ w).alloc (Nat.le_refl _) (.cells #[.bool s, .slice A n c] 25)
  have hc := r5norm_any s A n c l _ (h.below hb0) ht hl
  unfold RetInt at hc
  obtain ⟨v, hv⟩ : ∃ v, iv s l = v := ⟨_, rfl⟩
  rw [hv] at hc ⊢
  clear hv
  rcases Int.lt_trichotomy v 0 with h0 | h0 | h0
  · have e1 : v.sign = -1 := Int.sign_eq_neg_one_of_neg h0
    rw [decide_eq_true h0] at hc
    rw [e1]
    go_enter Try.func11, Try.ntmps11
    go_wp2_with (go_at_call 16; refine hc.mono ?_; rintro e w2 ⟨A2, n2, c2, l2, rfl, hi2, hr2, hb2⟩; have hq := res2 hb2 (b := w.heap.size) rfl; obtain ⟨⟨q0, q1⟩, q2, q3⟩ := hq.facts2; have hn2 : 0 < n2 := (by rw [← hr2.len]; exact hi2.pos_iff.1 (Int.natAbs_pos.2 (Int.ne_of_lt h0))))
    go_ret
    exact ⟨rfl, ((hb0.trans (hb2.mono hb0.size)).setCell (p := ⟨w.heap.size, 0, none⟩) (Nat.le_refl _) _).setCell (p := ⟨w.heap.size, 1, none⟩) (Nat.le_refl _) _⟩
  · subst h0
    go_enter Try.func11, Try.ntmps11
    go_wp2_with (go_at_call 16; refine hc.mono ?_; rintro e w2 ⟨A2, n2, c2, l2, rfl, hi2, hr2, hb2⟩; have hq := res2 hb2 (b := w.heap.size) rfl; obtain ⟨⟨q0, q1⟩, q2, q3⟩ := hq.facts2; obtain rfl : n2 = 0 := (by rw [← hr2.len]; exact hi2.zero_iff.1 rfl))
    go_ret
    exact ⟨rfl, ((hb0.trans (hb2.mono hb0.size)).setCell (p := ⟨w.heap.size, 0, none⟩) (Nat.le_refl _) _).setCell (p := ⟨w.heap.size, 1, none⟩) (Nat.le_refl _) _⟩
  · have e1 : v.sign = 1 := Int.sign_eq_one_of_pos h0
    rw [decide_eq_false (by omega)] at hc
    rw [e1]
    go_enter Try.func11, Try.ntmps11
    go_wp2_with (go_at_call 16; refine hc.mono ?_; rintro e w2 ⟨A2, n2, c2, l2, rfl, hi2, hr2, hb2⟩; have hq := res2 hb2 (b := w.heap.size) rfl; obtain ⟨⟨q0, q1⟩, q2, q3⟩ := hq.facts2; have hn2 : 0 < n2 := (by rw [← hr2.len]; exact hi2.pos_iff.1 (Int.natAbs_pos.2 (Int.ne_of_gt h0))))
    go_ret
    exact ⟨rfl, ((hb0.trans (hb2.mono hb0.size)).setCell (p := ⟨w.heap.size, 0, none⟩) (Nat.le_refl _) _).setCell (p := ⟨w.heap.size, 1, none⟩) (Nat.le_refl _) _⟩

set_option maxRecDepth 100000 in
set_option maxHeartbeats 1000000 in
theorem r5two_same (s : Bool) (A : Option Addr) (n c : Nat) (l : List Nat) (A' : Option Addr) (n' c' : Nat) (l' : List Nat) (w : World) (h : Rd w A n c l) (ht : Lt l) (h' : Rd w A' n' c' l') (ht' : Lt l') (m : Nat) (hl : n ≤ m) (hl' : n' ≤ m) (hm : m ≤ 100000) :
    Calls Try.prog 40 #[.agg #[.bool s, .slice A n c], .agg #[.bool s, .slice A' n' c']] w (RetInt w (iv s l + iv s l')) := by
  have hmix : Try.prog.follows .mixedOrders = true := by kernel_rfl
  go_enter Try.func40, Try.ntmps40
  go_wp2
  obtain ⟨W0, hW0⟩ : ∃ W0, (((w.alloc (.cells #[.bool s, .slice A n c] 25)).alloc (.cells #[.bool s, .slice A' n' c'] 25)).alloc (.cells #[.bool false, .slice none 0 0] 25)) = W0 := ⟨_, rfl⟩
  have x0 : BoxN W0 w.heap.size 25 #[.bool s, .slice A n c] := by rw [← hW0]; exact ((BoxN.new w _ _).alloc _).alloc _
  have x1 : BoxN W0 (w.heap.size + 1) 25 #[.bool s, .slice A' n' c'] := by rw [← hW0]; exact (BoxN.at_ _ _ _ (by simp)).alloc _
  have x2 : BoxN W0 (w.heap.size + 1 + 1) 25 #[.bool false, .slice none 0 0] := by rw [← hW0]; exact BoxN.at_ _ _ _ (by simp)
  have hB0 : Below w.heap.size w W0 := by rw [← hW0]; exact (((Below.refl _ w).alloc (Nat.le_refl _) _).alloc (by simp) _).alloc (by simp; omega) _
  rw [hW0]
  clear hW0
  refine (wpIn_wide (n := 0)).1 ?_
  have cf : ∀ W, Below W0.heap.size W0 W → (W.cell? ⟨w.heap.size, 0, none⟩ = some (.bool s) ∧ W.cell? ⟨w.heap.size, 1, none⟩ = some (.slice A n c)) ∧ W.cell? ⟨w.heap.size + 1, 0, none⟩ = some (.bool s) ∧ W.cell? ⟨w.heap.size + 1, 1, none⟩ = some (.slice A' n' c') := fun W hb => And.intro (x0.kept hb).facts2.1 (x1.kept hb).facts2.1
  refine wpIn_region_C 10 (fun W => (W.cell? ⟨w.heap.size, 0, none⟩ = some (.bool s) ∧ W.cell? ⟨w.heap.size, 1, none⟩ = some (.slice A n c)) ∧ W.cell? ⟨w.heap.size + 1, 0, none⟩ = some (.bool s) ∧ W.cell? ⟨w.heap.size + 1, 1, none⟩ = some (.slice A' n' c')) hmix ?_
  have hd : Below W0.heap.size W0 W0.drew := (Below.refl _ W0).drew
  have d1 := cf _ hd
  refine takeC (i := 0) (v := ?vv1) (by kernel_rfl) (by kernel_rfl) rfl (by kernel_rfl) (by kernel_rfl) (by kernel_rfl) (fun _ _ _ h => h) d1 ⟨.inl ⟨rfl, ?yy1⟩, fun _ => rfl⟩ ?_
  case yy1 =>
    rintro wx ⟨⟨q1, q2⟩, q3, q4⟩
    go_simp
    first | done | rfl
  refine takeC (i := 1) (v := ?vv2) (by kernel_rfl) (by kernel_rfl) rfl (by kernel_rfl) (by kernel_rfl) (by kernel_rfl) (fun _ _ _ h => h) d1 ⟨.inl ⟨rfl, ?yy2⟩, fun _ => rfl⟩ ?_
  case yy2 =>
    rintro wx ⟨⟨q1, q2⟩, q3, q4⟩
    go_simp
    first | done | rfl
  refine takeC (i := 2) (v := ?vv3) (by kernel_rfl) (by kernel_rfl) rfl (by kernel_rfl) (by kernel_rfl) (by kernel_rfl) (fun _ _ _ h => h) d1 ⟨.inl ⟨rfl, ?yy3⟩, fun _ => rfl⟩ ?_
  case yy3 =>
    rintro wx ⟨⟨q1, q2⟩, q3, q4⟩
    go_simp
    first | done | rfl
  refine takeC (i := 3) (v := ?vv4) (by kernel_rfl) (by kernel_rfl) rfl (by kernel_rfl) (by kernel_rfl) (by kernel_rfl) (fun _ _ _ h => h) d1 ⟨.inl ⟨rfl, ?yy4⟩, fun _ => rfl⟩ ?_
  case yy4 =>
    rintro wx ⟨⟨q1, q2⟩, q3, q4⟩
    go_simp
    first | done | rfl
  refine takeC (i := 4) (v := ?vv5) (by kernel_rfl) (by kernel_rfl) rfl (by kernel_rfl) (by kernel_rfl) (by kernel_rfl) (fun _ _ _ h => h) d1 ⟨.inl ⟨rfl, ?yy5⟩, fun _ => rfl⟩ ?_
  case yy5 =>
    rintro wx ⟨⟨q1, q2⟩, q3, q4⟩
    go_simp
    first | done | rfl
  refine takeC (i := 5) (v := ?vv6) (by kernel_rfl) (by kernel_rfl) rfl (by kernel_rfl) (by kernel_rfl) (by kernel_rfl) (fun _ _ _ h => h) d1 ⟨.inl ⟨rfl, ?yy6⟩, fun _ => rfl⟩ ?_
  case yy6 =>
    rintro wx ⟨⟨q1, q2⟩, q3, q4⟩
    go_simp
    first | done | rfl
  have hW3 : Below W0.heap.size W0 (W0.drew.alloc (.cells #[.slice A n c, .slice A' n' c'] 23)) := hd.alloc hd.size _
  have hds := Rds.two ((h.below hB0).drew) ht (by omega) ((h'.below hB0).drew) ht' (by omega) 23
  refine oneC (i := 6) (by kernel_rfl) rfl (fun K hK => ?_)
  go_simp
  refine hK _ _ (.inr (cf _ hW3)) ?_
  clear hK K
  have hadd := radd_any _ 2 2 [l, l'] _ hds (by omega)
  have hsum : ([l, l'].map val).sum = val l + val l' := by simp
  rw [hsum] at hadd
  refine oneC (i := 7) (by kernel_rfl) rfl (fun K hK => ?_)
  go_simp
  refine CallsIn.mono (callsIn_wide.2 hadd) ?_
  rintro e w3 ⟨A3, n3, c3, l3, rfl, hi3, hr3, hb3⟩
  have hB3 : Below W0.heap.size W0 w3 := hW3.trans (hb3.mono hW3.size)
  refine hK _ _ (.inr (cf _ hB3)) ?_
  clear hK K
  have d3 := cf _ hB3
  refine oneC (i := 8) (by kernel_rfl) rfl (fun K hK => ?_)
  go_simp
  refine hK _ _ (.inr d3) ?_
  clear hK K
  have hn3 : n3 ≤ m + 1 := by
    rw [← hr3.len]
    refine hi3.len ?_
    have e1 := val_lt ht; have e2 := val_lt ht'
    rw [h.len] at e1; rw [h'.len] at e2
    have f1 : BB ^ n ≤ BB ^ m := Nat.pow_le_pow_right BB_pos hl
    have f2 : BB ^ n' ≤ BB ^ m := Nat.pow_le_pow_right BB_pos hl'
    have f3 : BB ^ m * 2 ≤ BB ^ m * BB := Nat.mul_le_mul_left _ (by unfold BB; omega)
    rw [Nat.pow_succ]
    omega
  have hnm := r5norm_any s A3 n3 c3 l3 w3 hr3 hi3.lt (by omega)
  rw [iv_same hi3.val] at hnm
  obtain ⟨v, hv⟩ : ∃ v, iv s l + iv s l' = v := ⟨_, rfl⟩
  rw [hv] at hnm
  refine oneC (i := 9) (by kernel_rfl) rfl (fun K hK => ?_)
  go_simp
  refine CallsIn.mono (callsIn_wide.2 hnm) ?_
  rintro e w4 ⟨A4, n4, c4, l4, rfl, hi4, hr4, hb4⟩
  have hB4 : Below W0.heap.size W0 w4 := hB3.trans (hb4.mono hB3.size)
  have hq := x2.kept hB4
  obtain ⟨⟨m0, m1⟩, m2, m3⟩ := hq.facts2
  refine hK _ _ (.inr (cf _ hB4)) ?_
  clear hK K
  refine oneC (i := 10) (by kernel_rfl) rfl (fun K hK => ?_)
  go_simp
  refine hK _ _ (.inl rfl) ?_
  clear hK K
  refine doneP (by kernel_rfl) ?_
  obtain ⟨⟨c0, c1⟩, _, _⟩ := ((hq.set 0 (.bool (decide (v < 0)))).set 1 (.slice A4 n4 c4)).facts2
  go_wp2
  rw [hv]
  refine bodyPost_ret (v := .agg #[.bool (decide (v < 0)), .slice A4 n4 c4]) (by simp [results, Try.results40, go_sem, c0, c1]) rfl ?_
  exact ret2 hq (hB0.trans (hB4.mono hB0.size)) (by omega) hi4 hr4

set_option maxRecDepth 100000 in
set_option maxHeartbeats 1000000 in
theorem r5two_ge (s s' : Bool) (hs : s ≠ s') (A : Option Addr) (n c : Nat) (l : List Nat) (A' : Option Addr) (n' c' : Nat) (l' : List Nat) (w : World) (h : Rd w A n c l) (ht : Lt l) (h' : Rd w A' n' c' l') (ht' : Lt l') (hl : n ≤ 100000) (hge : val l' ≤ val l) :
    Calls Try.prog 40 #[.agg #[.bool s, .slice A n c], .agg #[.bool s', .slice A' n' c']] w (RetInt w (iv s l + iv s' l')) := by
  have hne : (s == s') = false := by simp [hs]
  obtain ⟨W0, hW0⟩ : ∃ W0, (((w.alloc (.cells #[.bool s, .slice A n c] 25)).alloc (.cells #[.bool s', .slice A' n' c'] 25)).alloc (.cells #[.bool false, .slice none 0 0] 25)) = W0 := ⟨_, rfl⟩
  have x0 : BoxN W0 w.heap.size 25 #[.bool s, .slice A n c] := by rw [← hW0]; exact ((BoxN.new w _ _).alloc _).alloc _
  have x1 : BoxN W0 (w.heap.size + 1) 25 #[.bool s', .slice A' n' c'] := by rw [← hW0]; exact (BoxN.at_ _ _ _ (by simp)).alloc _
  have x2 : BoxN W0 (w.heap.size + 1 + 1) 25 #[.bool false, .slice none 0 0] := by rw [← hW0]; exact BoxN.at_ _ _ _ (by simp)
  have hB0 : Below w.heap.size w W0 := by rw [← hW0]; exact (((Below.refl _ w).alloc (Nat.le_refl _) _).alloc (by simp) _).alloc (by simp; omega) _
  have hsub := rsub_any A n c l A' n' c' l' W0 (h.below hB0) (h'.below hB0) ht ht' hge (by omega)
  obtain ⟨v, hv⟩ : ∃ v, iv s l + iv s' l' = v := ⟨_, rfl⟩
  have hnm := fun (W : World) (A3 : Option Addr) (n3 c3 : Nat) (l3 : List Nat) (hr3 : Rd W A3 n3 c3 l3) (hi3 : Is l3 (val l - val l')) => r5norm_any s A3 n3 c3 l3 W hr3 hi3.lt (by
    rw [← hr3.len]
    have e1 := val_lt ht
    rw [h.len] at e1
    exact Nat.le_trans (hi3.len (Nat.lt_of_le_of_lt (Nat.sub_le _ _) e1)) (by omega))
  have hiv := fun (l3 : List Nat) (hi3 : Is l3 (val l - val l')) => iv_diff (l3 := l3) hs hi3.val hge
  rw [hv] at hiv ⊢
  obtain ⟨⟨a0, a1⟩, _, _⟩ := x0.facts2
  obtain ⟨⟨a2, a3⟩, _, _⟩ := x1.facts2
  obtain ⟨⟨b0, b1⟩, _, _⟩ := x0.facts2
  go_enter Try.func40, Try.ntmps40
  go_wp2_with (first | (go_at_call 64; refine hsub.mono ?_; rintro e w3 ⟨A3, n3, c3, l3, rfl, hi3, hr3, hb3⟩; have hq3 := hnm w3 A3 n3 c3 l3 hr3 hi3; rw [hiv l3 hi3] at hq3; obtain ⟨⟨a0, a1⟩, _, _⟩ := (x0.kept hb3).facts2; obtain ⟨⟨a2, a3⟩, _, _⟩ := (x1.kept hb3).facts2) | (go_at_call 16; refine hq3.mono ?_; rintro e w4 ⟨A4, n4, c4, l4, rfl, hi4, hr4, hb4⟩; have hB4 := hb3.trans (hb4.mono hb3.size); have hq := x2.kept hB4; obtain ⟨⟨m0, m1⟩, m2, m3⟩ := hq.facts2))
  obtain ⟨⟨c0, c1⟩, _, _⟩ := ((hq.set 0 (.bool (decide (v < 0)))).set 1 (.slice A4 n4 c4)).facts2
  refine bodyPost_ret (v := .agg #[.bool (decide (v < 0)), .slice A4 n4 c4]) (by simp [results, Try.results40, go_sem, c0, c1]) rfl ?_
  exact ret2 hq (hB0.trans (hB4.mono hB0.size)) (by omega) hi4 hr4

set_option maxRecDepth 100000 in
set_option maxHeartbeats 1000000 in
theorem r5two_lt (s s' : Bool) (hs : s ≠ s') (A : Option Addr) (n c : Nat) (l : List Nat) (A' : Option Addr) (n' c' : Nat) (l' : List Nat) (w : World) (h : Rd w A n c l) (ht : Lt l) (h' : Rd w A' n' c' l') (ht' : Lt l') (hl' : n' ≤ 100000) (hlt : val l < val l') :
    Calls Try.prog 40 #[.agg #[.bool s, .slice A n c], .agg #[.bool s', .slice A' n' c']] w (RetInt w (iv s l + iv s' l')) := by
  have hne : (s == s') = false := by simp [hs]
  obtain ⟨W0, hW0⟩ : ∃ W0, (((w.alloc (.cells #[.bool s, .slice A n c] 25)).alloc (.cells #[.bool s', .slice A' n' c'] 25)).alloc (.cells #[.bool false, .slice none 0 0] 25)) = W0 := ⟨_, rfl⟩
  have x0 : BoxN W0 w.heap.size 25 #[.bool s, .slice A n c] := by rw [← hW0]; exact ((BoxN.new w _ _).alloc _).alloc _
  have x1 : BoxN W0 (w.heap.size + 1) 25 #[.bool s', .slice A' n' c'] := by rw [← hW0]; exact (BoxN.at_ _ _ _ (by simp)).alloc _
  have x2 : BoxN W0 (w.heap.size + 1 + 1) 25 #[.bool false, .slice none 0 0] := by rw [← hW0]; exact BoxN.at_ _ _ _ (by simp)
  have hB0 : Below w.heap.size w W0 := by rw [← hW0]; exact (((Below.refl _ w).alloc (Nat.le_refl _) _).alloc (by simp) _).alloc (by simp; omega) _
  have hsub1 := rsub_less A n c l A' n' c' l' W0 (h.below hB0) (h'.below hB0) ht ht' hlt
  have hsub2 := rsub_any A' n' c' l' A n c l W0 (h'.below hB0) (h.below hB0) ht' ht (Nat.le_of_lt hlt) (by omega)
  obtain ⟨v, hv⟩ : ∃ v, iv s l + iv s' l' = v := ⟨_, rfl⟩
  have hnm := fun (W : World) (A3 : Option Addr) (n3 c3 : Nat) (l3 : List Nat) (hr3 : Rd W A3 n3 c3 l3) (hi3 : Is l3 (val l' - val l)) => r5norm_any s' A3 n3 c3 l3 W hr3 hi3.lt (by
    rw [← hr3.len]
    have e1 := val_lt ht'
    rw [h'.len] at e1
    exact Nat.le_trans (hi3.len (Nat.lt_of_le_of_lt (Nat.sub_le _ _) e1)) (by omega))
  have hiv := fun (l3 : List Nat) (hi3 : Is l3 (val l' - val l)) => iv_diff (l3 := l3) (Ne.symm hs) hi3.val (Nat.le_of_lt hlt)
  rw [Int.add_comm, hv] at hiv
  rw [hv]
  obtain ⟨⟨a0, a1⟩, _, _⟩ := x0.facts2
  obtain ⟨⟨a2, a3⟩, _, _⟩ := x1.facts2
  go_enter Try.func40, Try.ntmps40
  go_wp2_with (first | (go_at_call 64; first | ((with_reducible refine hsub1.mono ?_); rintro e w3 ⟨rfl, hw3⟩; rw [← hw3]; clear hw3 w3) | ((with_reducible refine hsub2.mono ?_); rintro e w3 ⟨A3, n3, c3, l3, rfl, hi3, hr3, hb3⟩; have hq3 := hnm w3 A3 n3 c3 l3 hr3 hi3; rw [hiv l3 hi3] at hq3; obtain ⟨⟨a0, a1⟩, _, _⟩ := (x0.kept hb3).facts2; obtain ⟨⟨a2, a3⟩, _, _⟩ := (x1.kept hb3).facts2)) | (go_at_call 16; refine hq3.mono ?_; rintro e w4 ⟨A4, n4, c4, l4, rfl, hi4, hr4, hb4⟩; have hB4 := hb3.trans (hb4.mono hb3.size); have hq := x2.kept hB4; obtain ⟨⟨m0, m1⟩, m2, m3⟩ := hq.facts2))
  obtain ⟨⟨c0, c1⟩, _, _⟩ := ((hq.set 0 (.bool (decide (v < 0)))).set 1 (.slice A4 n4 c4)).facts2
  refine bodyPost_ret (v := .agg #[.bool (decide (v < 0)), .slice A4 n4 c4]) (by simp [results, Try.results40, go_sem, c0, c1]) rfl ?_
  exact ret2 hq (hB0.trans (hB4.mono hB0.size)) (by omega) hi4 hr4

/-- two adds. -/
theorem r5two_any (s : Bool) (A : Option Addr) (n c : Nat) (l : List Nat) (s' : Bool) (A' : Option Addr) (n' c' : Nat) (l' : List Nat) (w : World) (h : Rd w A n c l) (ht : Lt l) (h' : Rd w A' n' c' l') (ht' : Lt l') (m : Nat) (hl : n ≤ m) (hl' : n' ≤ m) (hm : m ≤ 100000) :
    Calls Try.prog 40 #[.agg #[.bool s, .slice A n c], .agg #[.bool s', .slice A' n' c']] w (RetInt w (iv s l + iv s' l')) := by
  by_cases hs : s = s'
  · subst hs
    exact r5two_same s A n c l A' n' c' l' w h ht h' ht' m hl hl' hm
  · rcases Nat.lt_or_ge (val l) (val l') with e | e
    · exact r5two_lt s s' hs A n c l A' n' c' l' w h ht h' ht' (by omega) e
    · exact r5two_ge s s' hs A n c l A' n' c' l' w h ht h' ht' (by omega) e
end Go.Proofs.Wd
