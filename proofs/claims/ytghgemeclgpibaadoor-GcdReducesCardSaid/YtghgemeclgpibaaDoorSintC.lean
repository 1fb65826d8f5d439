/- The walk of num.add. -/
import Derived.Test.YtghgemeclgpibaaDoorSintB
namespace Go.Proofs.Wd
open Go.RowKit Lb
attribute [local go_sem] Oper.semAt_some wide_fn wide_depth

set_option maxRecDepth 100000 in
set_option maxHeartbeats 1000000 in
theorem num_add_same (B B' : Nat) (v v' : Int) (k : Nat) (w : World) (h : NumAt w B v) (h' : NumAt w B' v') (_hne : B' ≠ B) (hv : v.natAbs < BB ^ k) (hv' : v'.natAbs < BB ^ k) (hk : k ≤ 1000000) (hs : decide (v < 0) = decide (v' < 0)) :
    Calls Tryd.prog 114 #[.pointer (some ⟨B, 0, none⟩), .pointer (some ⟨B', 0, none⟩)] w fun e w' => (∃ u, e = .returned u) ∧ NumAt w' B (v + v') ∧ w.grownBy w' (some B) := by
  obtain ⟨A, n, c, l, hb, hi, hr⟩ := h
  obtain ⟨A', n', c', l', hb', hi', hr'⟩ := h'
  have hn : n ≤ k := by rw [← hr.len]; exact hi.len hv
  have hn' : n' ≤ k := by rw [← hr'.len]; exact hi'.len hv'
  obtain ⟨⟨g0, g1⟩, g2, g3⟩ := hb.facts2
  obtain ⟨⟨k0, k1⟩, k2, k3⟩ := hb'.facts2
  go_enter Tryd.func114, Tryd.ntmps114
  have hmix : Tryd.prog.follows .mixedOrders = true := by kernel_rfl
  · go_wp2_with (first | (go_region) | fail)
    refine (wpIn_wide (n := 0)).1 ?_
    refine wpIn_region_C 16 (fun W => (W.cell? ⟨B, 0, none⟩ = some (.bool (decide (v < 0))) ∧ W.cell? ⟨B, 1, none⟩ = some (.slice A n c)) ∧ W.cell? ⟨B', 0, none⟩ = some (.bool (decide (v' < 0))) ∧ W.cell? ⟨B', 1, none⟩ = some (.slice A' n' c')) hmix ?_
    have d1 := And.intro (And.intro g0 g1) (And.intro k0 k1)
    refine takeC (i := 0) (v := ?vv1) (by kernel_rfl) (by kernel_rfl) rfl (by kernel_rfl) (by kernel_rfl) (by kernel_rfl) (fun _ _ _ h => h) d1 ⟨.inl ⟨rfl, ?yy1⟩, fun _ => rfl⟩ ?_
    case yy1 =>
      rintro wx ⟨⟨q1, q2⟩, q3, q4⟩
      go_simp
      first | done | rfl
    refine takeC (i := 1) (v := ?vv2) (by kernel_rfl) (by kernel_rfl) rfl (by kernel_rfl) (by kernel_rfl) (by kernel_rfl) (fun _ _ _ h => h) d1 ⟨.inl ⟨rfl, ?yy2⟩, fun _ => rfl⟩ ?_
    case yy2 =>
      rintro wx ⟨⟨q1, q2⟩, q3, q4⟩
      go_simp
      first | done | rfl
    refine takeC (i := 2) (v := ?vv3) (by kernel_rfl) (by kernel_rfl) rfl (by kernel_rfl) (by kernel_rfl) (by kernel_rfl) (fun _ _ _ h => h) d1 ⟨.inl ⟨rfl, ?yy3⟩, fun _ => rfl⟩ ?_
    case yy3 =>
      rintro wx ⟨⟨q1, q2⟩, q3, q4⟩
      go_simp
      first | done | rfl
    refine takeC (i := 3) (v := ?vv4) (by kernel_rfl) (by kernel_rfl) rfl (by kernel_rfl) (by kernel_rfl) (by kernel_rfl) (fun _ _ _ h => h) d1 ⟨.inl ⟨rfl, ?yy4⟩, fun _ => rfl⟩ ?_
    case yy4 =>
      rintro wx ⟨⟨q1, q2⟩, q3, q4⟩
      go_simp
      first | done | rfl
    refine takeC (i := 4) (v := ?vv5) (by kernel_rfl) (by kernel_rfl) rfl (by kernel_rfl) (by kernel_rfl) (by kernel_rfl) (fun _ _ _ h => h) d1 ⟨.inl ⟨rfl, ?yy5⟩, fun _ => rfl⟩ ?_
    case yy5 =>
      rintro wx ⟨⟨q1, q2⟩, q3, q4⟩
      go_simp
      first | done | rfl
    refine takeC (i := 5) (v := ?vv6) (by kernel_rfl) (by kernel_rfl) rfl (by kernel_rfl) (by kernel_rfl) (by kernel_rfl) (fun _ _ _ h => h) d1 ⟨.inl ⟨rfl, ?yy6⟩, fun _ => rfl⟩ ?_
    case yy6 =>
      rintro wx ⟨⟨q1, q2⟩, q3, q4⟩
      go_simp
      first | done | rfl
    refine takeC (i := 6) (v := ?vv7) (by kernel_rfl) (by kernel_rfl) rfl (by kernel_rfl) (by kernel_rfl) (by kernel_rfl) (fun _ _ _ h => h) d1 ⟨.inl ⟨rfl, ?yy7⟩, fun _ => rfl⟩ ?_
    case yy7 =>
      rintro wx ⟨⟨q1, q2⟩, q3, q4⟩
      go_simp
      first | done | rfl
    refine takeC (i := 7) (v := ?vv8) (by kernel_rfl) (by kernel_rfl) rfl (by kernel_rfl) (by kernel_rfl) (by kernel_rfl) (fun _ _ _ h => h) d1 ⟨.inl ⟨rfl, ?yy8⟩, fun _ => rfl⟩ ?_
    case yy8 =>
      rintro wx ⟨⟨q1, q2⟩, q3, q4⟩
      go_simp
      first | done | rfl
    refine takeC (i := 8) (v := ?vv9) (by kernel_rfl) (by kernel_rfl) rfl (by kernel_rfl) (by kernel_rfl) (by kernel_rfl) (fun _ _ _ h => h) d1 ⟨.inl ⟨rfl, ?yy9⟩, fun _ => rfl⟩ ?_
    case yy9 =>
      rintro wx ⟨⟨q1, q2⟩, q3, q4⟩
      go_simp
      first | done | rfl
    refine takeC (i := 9) (v := ?vv10) (by kernel_rfl) (by kernel_rfl) rfl (by kernel_rfl) (by kernel_rfl) (by kernel_rfl) (fun _ _ _ h => h) d1 ⟨.inl ⟨rfl, ?yy10⟩, fun _ => rfl⟩ ?_
    case yy10 =>
      rintro wx ⟨⟨q1, q2⟩, q3, q4⟩
      go_simp
      first | done | rfl
    refine takeC (i := 10) (v := ?vv11) (by kernel_rfl) (by kernel_rfl) rfl (by kernel_rfl) (by kernel_rfl) (by kernel_rfl) (fun _ _ _ h => h) d1 ⟨.inl ⟨rfl, ?yy11⟩, fun _ => rfl⟩ ?_
    case yy11 =>
      rintro wx ⟨⟨q1, q2⟩, q3, q4⟩
      go_simp
      first | done | rfl
    refine oneC (i := 11) (by kernel_rfl) rfl (fun K hK => ?_)
    go_simp
    have hW1 : Below w.heap.size w (w.alloc (.cells #[.slice A n c, .slice A' n' c'] 23)).drew.drew := (((Below.refl _ w).alloc (Nat.le_refl _) _).drew).drew
    have hds : Rds (w.alloc (.cells #[.slice A n c, .slice A' n' c'] 23)).drew.drew (some ⟨w.heap.size, 0, none⟩) 2 [l, l'] := (Rds.two hr hi.lt (by omega) hr' hi'.lt (by omega) 23).below (((Below.refl _ _).drew).drew)
    generalize hW : (w.alloc (.cells #[.slice A n c, .slice A' n' c'] 23)).drew.drew = W1 at *
    have hb1 := hb.kept hW1; have hb1' := hb'.kept hW1
    refine hK _ _ (.inr ⟨hb1.facts2.1, hb1'.facts2.1⟩) ?_
    clear hK K
    refine oneC (i := 12) (by kernel_rfl) rfl (fun K hK => ?_)
    go_simp
    refine CallsIn.mono (callsIn_wide.2 (add_any _ 2 2 _ W1 hds (by omega))) ?_
    rintro e w2 ⟨A2, n2, c2, l2, rfl, hi2, hr2, hb2⟩
    have hB2 : Below w.heap.size w w2 := hW1.trans (hb2.mono hW1.size)
    have hb3 := hb.kept hB2; have hb3' := hb'.kept hB2
    obtain ⟨⟨m0, m1⟩, m2, m3⟩ := hb3.facts2
    have d3 := And.intro hb3.facts2.1 hb3'.facts2.1
    refine hK _ _ (.inr ⟨hb3.facts2.1, hb3'.facts2.1⟩) ?_
    clear hK K
    refine oneC (i := 13) (by kernel_rfl) rfl (fun K hK => ?_)
    go_simp
    refine hK _ _ (.inr d3) ?_
    clear hK K
    refine oneC (i := 14) (by kernel_rfl) rfl (fun K hK => ?_)
    go_simp
    refine hK _ _ (.inr d3) ?_
    clear hK K
    refine oneC (i := 15) (by kernel_rfl) rfl (fun K hK => ?_)
    go_simp
    refine hK _ _ (.inr d3) ?_
    clear hK K
    refine oneC (i := 16) (by kernel_rfl) rfl (fun K hK => ?_)
    go_simp
    refine hK _ _ (.inl rfl) ?_
    clear hK K
    refine doneP (by kernel_rfl) ?_
    have hv2 : iv (decide (v < 0)) l2 = v + v' := by
      unfold iv
      rw [hi2.val]
      simp only [List.map_cons, List.map_nil, List.sum_cons, List.sum_nil, hi.val, hi'.val]
      by_cases h0 : v < 0
      · have h1 : v' < 0 := by rw [decide_eq_true h0] at hs; exact of_decide_eq_true hs.symm
        rw [decide_eq_true h0]
        simp only [if_true]
        omega
      · have h1 : ¬ v' < 0 := by rw [decide_eq_false h0] at hs; exact of_decide_eq_false hs.symm
        rw [decide_eq_false h0]
        simp only [Bool.false_eq_true, if_false]
        omega
    have hn2 : n2 ≤ k + 1 := by
      rw [← hr2.len]
      refine hi2.len ?_
      simp only [List.map_cons, List.map_nil, List.sum_cons, List.sum_nil, hi.val, hi'.val, Nat.pow_succ]
      unfold BB at *
      omega
    go_wp2_with (go_at_call 112; refine (norm_any B _ A2 n2 c2 l2 _ (hb3.set 1 _) (hr2.setN hb3 (i := 1) rfl (fun _ => by simp) _) hi2.lt (by omega)).mono ?_; rintro e w4 ⟨rfl, hn4, hg4⟩)
    refine bodyPost_ret (results_none rfl _ _ _) rfl ⟨⟨_, rfl⟩, by rw [hv2] at hn4; exact hn4, ((below_none hB2).but (some B)).trans ((setCell_grown w2 ⟨B, 1, none⟩ _).trans hg4)⟩
end Go.Proofs.Wd
