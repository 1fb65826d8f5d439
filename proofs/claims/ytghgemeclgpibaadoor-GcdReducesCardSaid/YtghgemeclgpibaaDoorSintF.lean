/- The walks of sint's Sub, Cmp, Same. -/
import Derived.Test.YtghgemeclgpibaaDoorSintE
namespace Go.Proofs.Wd
open Go.RowKit Lb
attribute [local go_sem] Oper.semAt_some wide_fn wide_depth

theorem iv_norm {v : Int} {l : List Nat} (h : Is l v.natAbs) : iv (decide (v < 0)) l = v := by
  unfold iv
  rw [h.val]
  by_cases h0 : v < 0
  · rw [decide_eq_true h0]; simp only [if_true]; omega
  · rw [decide_eq_false h0]; simp only [Bool.false_eq_true, if_false]; omega

theorem IRd.two {m : Nat} {w : World} {s s' : Bool} {A : Option Addr} {n c : Nat} {l : List Nat} (h : Rd w A n c l) (ht : Lt l) (hn : n ≤ m) {A' : Option Addr} {n' c' : Nat} {l' : List Nat} (h' : Rd w A' n' c' l') (ht' : Lt l') (hn' : n' ≤ m) (t : TypeId) :
    IRdM m (w.alloc (.cells #[.bool s, .slice A n c, .bool s', .slice A' n' c'] t)) (some ⟨w.heap.size, 0, none⟩) 2 [(s, l), (s', l')] :=
  ⟨rfl, fun i hi => by
    rcases (by omega : i = 0 ∨ i = 1) with rfl | rfl
    · exact ⟨_, _, s, A, n, c, l, rfl, cell_new w _ t 0, cell_new w _ t 1, rfl, h.alloc _, ht, hn⟩
    · exact ⟨_, _, s', A', n', c', l', rfl, cell_new w _ t 2, cell_new w _ t 3, rfl, h'.alloc _, ht', hn'⟩⟩

theorem IRd.three {m : Nat} {w : World} {s s' s'' : Bool} {A : Option Addr} {n c : Nat} {l : List Nat} (h : Rd w A n c l) (ht : Lt l) (hn : n ≤ m) {A' : Option Addr} {n' c' : Nat} {l' : List Nat} (h' : Rd w A' n' c' l') (ht' : Lt l') (hn' : n' ≤ m)
    {A'' : Option Addr} {n'' c'' : Nat} {l'' : List Nat} (h'' : Rd w A'' n'' c'' l'') (ht'' : Lt l'') (hn'' : n'' ≤ m) (t : TypeId) :
    IRdM m (w.alloc (.cells #[.bool s, .slice A n c, .bool s', .slice A' n' c', .bool s'', .slice A'' n'' c''] t)) (some ⟨w.heap.size, 0, none⟩) 3 [(s, l), (s', l'), (s'', l'')] :=
  ⟨rfl, fun i hi => by
    rcases (by omega : i = 0 ∨ i = 1 ∨ i = 2) with rfl | rfl | rfl
    · exact ⟨_, _, s, A, n, c, l, rfl, cell_new w _ t 0, cell_new w _ t 1, rfl, h.alloc _, ht, hn⟩
    · exact ⟨_, _, s', A', n', c', l', rfl, cell_new w _ t 2, cell_new w _ t 3, rfl, h'.alloc _, ht', hn'⟩
    · exact ⟨_, _, s'', A'', n'', c'', l'', rfl, cell_new w _ t 4, cell_new w _ t 5, rfl, h''.alloc _, ht'', hn''⟩⟩

theorem iv_bound {s : Bool} {l : List Nat} {n m : Nat} (ht : Lt l) (hl : l.length = n) (hn : n ≤ m) : (iv s l).natAbs < BB ^ m := by
  rw [iv_abs]
  exact Nat.lt_of_lt_of_le (val_lt ht) (Nat.pow_le_pow_right (by unfold BB; omega) (by omega))
theorem ivAt_two (p q : Bool × List Nat) (m : Nat) (hp : (iv p.1 p.2).natAbs < BB ^ m) (hq : (iv q.1 q.2).natAbs < BB ^ m) (k : Nat) : (ivAt [p, q] k).natAbs < BB ^ m := by
  have h0 : 0 < BB ^ m := Nat.pow_pos (by unfold BB; omega)
  unfold ivAt
  match k with
  | 0 => simpa using hp
  | 1 => simpa using hq
  | k + 2 => simpa using h0

set_option maxRecDepth 100000 in
set_option maxHeartbeats 1000000 in
theorem ssub_any (s : Bool) (A : Option Addr) (n c : Nat) (l : List Nat) (s' : Bool) (A' : Option Addr) (n' c' : Nat) (l' : List Nat) (w : World) (h : Rd w A n c l) (ht : Lt l) (h' : Rd w A' n' c' l') (ht' : Lt l') (m : Nat) (hl : n ≤ m) (hl' : n' ≤ m) (hm : m ≤ 100000) :
    Calls Tryd.prog 94 #[.agg #[.bool s, .slice A n c], .agg #[.bool s', .slice A' n' c']] w (RetInt w (iv s l - iv s' l')) := by
  have hmix : Tryd.prog.follows .mixedOrders = true := by kernel_rfl
  go_enter Tryd.func94, Tryd.ntmps94
  go_wp2
  refine (wpIn_wide (n := 0)).1 ?_
  obtain ⟨W0, hW0⟩ : ∃ W0, (((w.alloc (.cells #[.bool s, .slice A n c] 41)).alloc (.cells #[.bool s', .slice A' n' c'] 41)).alloc (.cells #[.bool false, .slice none 0 0] 41)) = W0 := ⟨_, rfl⟩
  have x0 : BoxN W0 w.heap.size 41 #[.bool s, .slice A n c] := by rw [← hW0]; exact ((BoxN.new w _ _).alloc _).alloc _
  have x1 : BoxN W0 (w.heap.size + 1) 41 #[.bool s', .slice A' n' c'] := by rw [← hW0]; exact (BoxN.at_ _ _ _ (by simp)).alloc _
  have x2 : BoxN W0 (w.heap.size + 1 + 1) 41 #[.bool false, .slice none 0 0] := by rw [← hW0]; exact BoxN.at_ _ _ _ (by simp)
  have hB0 : Below w.heap.size w W0 := by rw [← hW0]; exact (((Below.refl _ w).alloc (Nat.le_refl _) _).alloc (by simp) _).alloc (by simp; omega) _
  rw [hW0]
  clear hW0
  refine wpIn_region_C 100 (fun W => (W.cell? ⟨w.heap.size, 0, none⟩ = some (.bool s) ∧ W.cell? ⟨w.heap.size, 1, none⟩ = some (.slice A n c)) ∧ W.cell? ⟨w.heap.size + 1, 0, none⟩ = some (.bool s') ∧ W.cell? ⟨w.heap.size + 1, 1, none⟩ = some (.slice A' n' c')) hmix ?_
  have d1 := And.intro x0.facts2.1 x1.facts2.1
  refine takeC (i := 0) (v := ?vv1) (by kernel_rfl) (by kernel_rfl) rfl (by kernel_rfl) (by kernel_rfl) (by kernel_rfl) (fun _ _ _ h => h) d1 ⟨.inl ⟨rfl, ?yy1⟩, fun _ => rfl⟩ ?_
  case yy1 =>
    rintro wx ⟨⟨q1, q2⟩, q3, q4⟩
    go_simp
    first | done | rfl
  refine takeC (i := 1) (v := ?vv2) (by kernel_rfl) (by kernel_rfl) rfl (by kernel_rfl) (by kernel_rfl) (by kernel_rfl) (fun _ _ _ h => h) d1 ⟨.inl ⟨rfl, ?yy2⟩, fun _ => rfl⟩ ?_
  case yy2 =>
    rintro wx ⟨⟨q1, q2⟩, q3, q4⟩
    go_simp
    first | done | rfl
  refine oneC (i := 2) (by kernel_rfl) rfl (fun K hK => ?_)
  go_simp
  have hneg := sneg_any s' A' n' c' l' _ ((h'.below hB0).drew) ht' (by omega)
  obtain ⟨v2, hv2⟩ : ∃ v2, -iv s' l' = v2 := ⟨_, rfl⟩
  rw [hv2] at hneg
  refine CallsIn.mono (callsIn_wide.2 hneg) ?_
  rintro e w2 ⟨A2, n2, c2, l2, rfl, hi2, hr2, hb2⟩
  have hB2 : Below W0.heap.size W0 w2 := ((Below.refl _ W0).drew).trans hb2
  have d2 := And.intro (x0.kept hB2).facts2.1 (x1.kept hB2).facts2.1
  have hn2 : n2 ≤ m := by
    rw [← hr2.len]
    refine hi2.len ?_
    rw [← hv2, Int.natAbs_neg]
    exact iv_bound ht' h'.len hl'
  refine hK _ _ (.inr d2) ?_
  clear hK K
  refine oneC (i := 3) (by kernel_rfl) rfl (fun K hK => ?_)
  go_simp
  have hds : IRd _ _ _ _ := IRd.two (s := s) (s' := decide (v2 < 0)) (h.below (hB0.trans (hB2.mono hB0.size))) ht (by omega) hr2 hi2.lt (by omega) 41
  have hW3 : Below W0.heap.size W0 (w2.alloc (.cells #[.bool s, .slice A n c, .bool (decide (v2 < 0)), .slice A2 n2 c2] 41)) := hB2.alloc hB2.size _
  refine hK _ _ (.inr ⟨(x0.kept hW3).facts2.1, (x1.kept hW3).facts2.1⟩) ?_
  clear hK K
  refine oneC (i := 4) (by kernel_rfl) rfl (fun K hK => ?_)
  go_simp
  have hvm := ivAt_two (s, l) (decide (v2 < 0), l2) m (iv_bound ht h.len hl) (iv_bound hi2.lt hr2.len hn2)
  have hsum : isum [(s, l), (decide (v2 < 0), l2)] 2 = iv s l - iv s' l' := by
    show (0 + iv s l) + iv (decide (v2 < 0)) l2 = _
    rw [iv_norm hi2]
    omega
  have hadd := sadd_any _ 2 2 _ m _ hds (by omega) (by omega) (by omega) hvm
  rw [hsum] at hadd
  refine CallsIn.mono (callsIn_wide.2 hadd) ?_
  rintro e w3 ⟨A3, n3, c3, l3, rfl, hi3, hr3, hb3⟩
  have hB3 : Below W0.heap.size W0 w3 := hW3.trans (hb3.mono hW3.size)
  have hq := x2.kept hB3
  obtain ⟨⟨m0, m1⟩, m2, m3⟩ := hq.facts2
  refine hK _ _ (.inr ⟨(x0.kept hB3).facts2.1, (x1.kept hB3).facts2.1⟩) ?_
  clear hK K
  obtain ⟨v3, hv3⟩ : ∃ v3, iv s l - iv s' l' = v3 := ⟨_, rfl⟩
  rw [hv3] at hi3
  simp only [hv3]
  refine oneC (i := 5) (by kernel_rfl) rfl (fun K hK => ?_)
  go_simp
  refine hK _ _ (.inr ⟨((x0.kept hB3).other (p := ⟨w.heap.size + 1 + 1, 0, none⟩) (by simp; omega) _ |>.other (p := ⟨w.heap.size + 1 + 1, 1, none⟩) (by simp; omega) _).facts2.1, ((x1.kept hB3).other (p := ⟨w.heap.size + 1 + 1, 0, none⟩) (by simp) _ |>.other (p := ⟨w.heap.size + 1 + 1, 1, none⟩) (by simp) _).facts2.1⟩) ?_
  clear hK K
  refine doneP (by kernel_rfl) ?_
  obtain ⟨⟨c0, c1⟩, _, _⟩ := ((hq.set 0 (.bool (decide (v3 < 0)))).set 1 (.slice A3 n3 c3)).facts2
  go_wp2
  refine bodyPost_ret (v := .agg #[.bool (decide (v3 < 0)), .slice A3 n3 c3]) (by simp [results, Tryd.results94, go_sem, c0, c1]) rfl ?_
  rw [hv3]
  exact ret2 hq (hB0.trans (hB3.mono hB0.size)) (by omega) hi3 hr3

set_option maxHeartbeats 1000000 in
theorem scmp_any (s : Bool) (A : Option Addr) (n c : Nat) (l : List Nat) (s' : Bool) (A' : Option Addr) (n' c' : Nat) (l' : List Nat) (w : World) (h : Rd w A n c l) (ht : Lt l) (h' : Rd w A' n' c' l') (ht' : Lt l') (m : Nat) (hl : n ≤ m) (hl' : n' ≤ m) (hm : m ≤ 100000) :
    Calls Tryd.prog 67 #[.agg #[.bool s, .slice A n c], .agg #[.bool s', .slice A' n' c']] w fun e w' => e = .returned (.int .i64 (iv s l - iv s' l').sign) ∧ Below w.heap.size w w' := by
  have hb1 := ((Below.refl _ w).alloc (Nat.le_refl _) (.cells #[.bool s, .slice A n c] 41)).alloc (by simp) (.cells #[.bool s', .slice A' n' c'] 41)
  have hsub := ssub_any s A n c l s' A' n' c' l' _ (h.below hb1) ht (h'.below hb1) ht' m hl hl' hm
  obtain ⟨v3, hv3⟩ : ∃ v3, iv s l - iv s' l' = v3 := ⟨_, rfl⟩
  have hbd : v3.natAbs < BB ^ (m + 1) := by
    have e1 := iv_bound (s := s) ht h.len hl; have e2 := iv_bound (s := s') ht' h'.len hl'
    rw [Nat.pow_succ]
    unfold BB at *
    omega
  rw [hv3] at hsub
  rw [hv3]
  go_enter Tryd.func67, Tryd.ntmps67
  go_wp2_with (first | (go_at_call 94; refine hsub.mono ?_; rintro e w2 ⟨A2, n2, c2, l2, rfl, hi2, hr2, hb2⟩) | (go_at_call 74; refine (ssign_any _ A2 n2 c2 l2 _ hr2 hi2.lt (by rw [← hr2.len]; exact Nat.le_trans (hi2.len hbd) (by omega))).mono ?_; rintro e w3 ⟨rfl, hb3⟩))
  go_ret
  have hb4 := hb1.trans (hb2.mono hb1.size)
  exact ⟨by rw [iv_norm hi2]; rfl, hb4.trans (hb3.mono hb4.size)⟩

end Go.Proofs.Wd
