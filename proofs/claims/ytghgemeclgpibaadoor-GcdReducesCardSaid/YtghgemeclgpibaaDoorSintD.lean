/- The walk of num.add, on. -/
import Derived.Test.YtghgemeclgpibaaDoorSintB
namespace Go.Proofs.Wd
open Go.RowKit Lb
attribute [local go_sem] Oper.semAt_some wide_fn wide_depth

set_option maxRecDepth 100000 in
set_option maxHeartbeats 1000000 in
theorem num_add_ge (B B' : Nat) (v v' : Int) (k : Nat) (w : World) (h : NumAt w B v) (h' : NumAt w B' v') (_hne : B' ≠ B) (hv : v.natAbs < BB ^ k) (hv' : v'.natAbs < BB ^ k) (hk : k ≤ 1000000) (hs : (decide (v < 0) == decide (v' < 0)) = false) (hlt : v'.natAbs ≤ v.natAbs) :
    Calls Tryd.prog 114 #[.pointer (some ⟨B, 0, none⟩), .pointer (some ⟨B', 0, none⟩)] w fun e w' => (∃ u, e = .returned u) ∧ NumAt w' B (v + v') ∧ w.grownBy w' (some B) := by
  obtain ⟨A, n, c, l, hb, hi, hr⟩ := h
  obtain ⟨A', n', c', l', hb', hi', hr'⟩ := h'
  have hn : n ≤ k := by rw [← hr.len]; exact hi.len hv
  have hn' : n' ≤ k := by rw [← hr'.len]; exact hi'.len hv'
  obtain ⟨⟨g0, g1⟩, g2, g3⟩ := hb.facts2
  obtain ⟨⟨k0, k1⟩, k2, k3⟩ := hb'.facts2
  have hmix : Tryd.prog.follows .mixedOrders = true := by kernel_rfl
  go_enter Tryd.func114, Tryd.ntmps114
  go_wp2_with (first | (go_region) | fail)
  have d1 := And.intro (And.intro g0 g1) (And.intro k0 k1)
  refine (wpIn_wide (n := 0)).1 ?_
  refine wpIn_region_C 100 (fun W => (W.cell? ⟨B, 0, none⟩ = some (.bool (decide (v < 0))) ∧ W.cell? ⟨B, 1, none⟩ = some (.slice A n c)) ∧ W.cell? ⟨B', 0, none⟩ = some (.bool (decide (v' < 0))) ∧ W.cell? ⟨B', 1, none⟩ = some (.slice A' n' c')) hmix ?_
  refine takeC (i := 0) (v := ?vv1) (by kernel_rfl) (by kernel_rfl) rfl (by kernel_rfl) (by kernel_rfl) (by kernel_rfl) (fun _ _ _ h => h) d1 ⟨.inl ⟨rfl, ?yy1⟩, fun _ => rfl⟩ ?_
  case yy1 =>
    rintro wx ⟨⟨q1, q2⟩, q3, q4⟩
    go_simp
    first | done | rfl
  refine takeC (i := 1) (v := ?vv2) (by kernel_rfl) (by kernel_rfl) rfl (by kernel_rfl) (by kernel_rfl) (by kernel_rfl) (fun _ _ _ h => h) d1 ⟨.inl ⟨rfl, ?yy2⟩, fun _ => rfl⟩ ?_
  case yy2 =>
    rintro wx ⟨⟨q1, q2⟩, q3, q4⟩
    go_simp
    first | done | rfl
  refine takeC (i := 2) (v := ?vv3) (by kernel_rfl) (by kernel_rfl) rfl (by kernel_rfl) (by kernel_rfl) (by kernel_rfl) (fun _ _ _ h => h) d1 ⟨.inl ⟨rfl, ?yy3⟩, fun _ => rfl⟩ ?_
  case yy3 =>
    rintro wx ⟨⟨q1, q2⟩, q3, q4⟩
    go_simp
    first | done | rfl
  refine takeC (i := 3) (v := ?vv4) (by kernel_rfl) (by kernel_rfl) rfl (by kernel_rfl) (by kernel_rfl) (by kernel_rfl) (fun _ _ _ h => h) d1 ⟨.inl ⟨rfl, ?yy4⟩, fun _ => rfl⟩ ?_
  case yy4 =>
    rintro wx ⟨⟨q1, q2⟩, q3, q4⟩
    go_simp
    first | done | rfl
  refine takeC (i := 4) (v := ?vv5) (by kernel_rfl) (by kernel_rfl) rfl (by kernel_rfl) (by kernel_rfl) (by kernel_rfl) (fun _ _ _ h => h) d1 ⟨.inl ⟨rfl, ?yy5⟩, fun _ => rfl⟩ ?_
  case yy5 =>
    rintro wx ⟨⟨q1, q2⟩, q3, q4⟩
    go_simp
    first | done | rfl
  refine takeC (i := 5) (v := ?vv6) (by kernel_rfl) (by kernel_rfl) rfl (by kernel_rfl) (by kernel_rfl) (by kernel_rfl) (fun _ _ _ h => h) d1 ⟨.inl ⟨rfl, ?yy6⟩, fun _ => rfl⟩ ?_
  case yy6 =>
    rintro wx ⟨⟨q1, q2⟩, q3, q4⟩
    go_simp
    first | done | rfl
  refine takeC (i := 6) (v := ?vv7) (by kernel_rfl) (by kernel_rfl) rfl (by kernel_rfl) (by kernel_rfl) (by kernel_rfl) (fun _ _ _ h => h) d1 ⟨.inl ⟨rfl, ?yy7⟩, fun _ => rfl⟩ ?_
  case yy7 =>
    rintro wx ⟨⟨q1, q2⟩, q3, q4⟩
    go_simp
    first | done | rfl
  refine takeC (i := 7) (v := ?vv8) (by kernel_rfl) (by kernel_rfl) rfl (by kernel_rfl) (by kernel_rfl) (by kernel_rfl) (fun _ _ _ h => h) d1 ⟨.inl ⟨rfl, ?yy8⟩, fun _ => rfl⟩ ?_
  case yy8 =>
    rintro wx ⟨⟨q1, q2⟩, q3, q4⟩
    go_simp
    first | done | rfl
  refine takeC (i := 8) (v := ?vv9) (by kernel_rfl) (by kernel_rfl) rfl (by kernel_rfl) (by kernel_rfl) (by kernel_rfl) (fun _ _ _ h => h) d1 ⟨.inl ⟨rfl, ?yy9⟩, fun _ => rfl⟩ ?_
  case yy9 =>
    rintro wx ⟨⟨q1, q2⟩, q3, q4⟩
    go_simp
    first | done | rfl
  refine takeC (i := 9) (v := ?vv10) (by kernel_rfl) (by kernel_rfl) rfl (by kernel_rfl) (by kernel_rfl) (by kernel_rfl) (fun _ _ _ h => h) d1 ⟨.inl ⟨rfl, ?yy10⟩, fun _ => rfl⟩ ?_
  case yy10 =>
    rintro wx ⟨⟨q1, q2⟩, q3, q4⟩
    go_simp
    first | done | rfl
  refine oneC (i := 10) (by kernel_rfl) rfl (fun K hK => ?_)
  go_simp
  refine CallsIn.mono (callsIn_wide.2 (sub_any A n c l A' n' c' l' _ (hr.below (((Below.refl _ w).drew).drew)) (hr'.below (((Below.refl _ w).drew).drew)) hi.lt hi'.lt (by rw [hi.val, hi'.val]; exact hlt) (by omega) (by omega))) ?_
  rintro e w2 ⟨A2, n2, c2, l2, rfl, hi2, hr2, hb2⟩
  have hB2 : Below w.heap.size w w2 := (((Below.refl _ w).drew).drew).trans hb2
  have hb3 := hb.kept hB2; have hb3' := hb'.kept hB2
  obtain ⟨⟨m0, m1⟩, m2, m3⟩ := hb3.facts2
  obtain ⟨⟨p0, p1⟩, p2, p3⟩ := hb3'.facts2
  have d3 := And.intro hb3.facts2.1 hb3'.facts2.1
  refine hK _ _ (.inr d3) ?_
  clear hK K
  refine oneC (i := 11) (by kernel_rfl) rfl (fun K hK => ?_)
  go_simp
  refine hK _ _ (.inr d3) ?_
  clear hK K
  refine takeC (i := 12) (v := ?vv11) (by kernel_rfl) (by kernel_rfl) rfl (by kernel_rfl) (by kernel_rfl) (by kernel_rfl) (fun _ _ _ h => h) d3 ⟨.inl ⟨rfl, ?yy11⟩, fun _ => rfl⟩ ?_
  case yy11 =>
    rintro wx ⟨⟨q1, q2⟩, q3, q4⟩
    go_simp
    first | done | rfl
  refine takeC (i := 13) (v := ?vv12) (by kernel_rfl) (by kernel_rfl) rfl (by kernel_rfl) (by kernel_rfl) (by kernel_rfl) (fun _ _ _ h => h) d3 ⟨.inl ⟨rfl, ?yy12⟩, fun _ => rfl⟩ ?_
  case yy12 =>
    rintro wx ⟨⟨q1, q2⟩, q3, q4⟩
    go_simp
    first | done | rfl
  refine takeC (i := 14) (v := ?vv13) (by kernel_rfl) (by kernel_rfl) rfl (by kernel_rfl) (by kernel_rfl) (by kernel_rfl) (fun _ _ _ h => h) d3 ⟨.inl ⟨rfl, ?yy13⟩, fun _ => rfl⟩ ?_
  case yy13 =>
    rintro wx ⟨⟨q1, q2⟩, q3, q4⟩
    go_simp
    first | done | rfl
  refine takeC (i := 15) (v := ?vv14) (by kernel_rfl) (by kernel_rfl) rfl (by kernel_rfl) (by kernel_rfl) (by kernel_rfl) (fun _ _ _ h => h) d3 ⟨.inl ⟨rfl, ?yy14⟩, fun _ => rfl⟩ ?_
  case yy14 =>
    rintro wx ⟨⟨q1, q2⟩, q3, q4⟩
    go_simp
    first | done | rfl
  refine doneP (by kernel_rfl) ?_
  have hv2 : iv (decide (v < 0)) l2 = v + v' := by
    unfold iv
    rw [hi2.val, hi.val, hi'.val]
    have hs' := beq_eq_false_iff_ne.1 hs
    by_cases h0 : v < 0
    · have h1 : ¬ v' < 0 := fun h1 => hs' (by rw [decide_eq_true h0, decide_eq_true h1])
      rw [decide_eq_true h0]
      simp only [if_true]
      omega
    · have h1 : v' < 0 := Decidable.byContradiction fun h1 => hs' (by rw [decide_eq_false h0, decide_eq_false h1])
      rw [decide_eq_false h0]
      simp only [Bool.false_eq_true, if_false]
      omega
  have hn2 : n2 ≤ k := by
    rw [← hr2.len]
    exact hi2.len (Nat.lt_of_le_of_lt (Nat.sub_le _ _) (by rw [hi.val]; exact hv))
  go_wp2_with (go_at_call 112; refine (norm_any B _ A2 n2 c2 l2 _ (hb3.set 1 _) (hr2.setN hb3 (i := 1) rfl (fun _ => by simp) _) hi2.lt (by omega)).mono ?_; rintro e w4 ⟨rfl, hn4, hg4⟩)
  go_end0
  exact ⟨⟨_, rfl⟩, by rw [hv2] at hn4; exact hn4, ((below_none hB2).but (some B)).trans ((setCell_grown w2 ⟨B, 1, none⟩ _).trans hg4)⟩

set_option maxRecDepth 100000 in
set_option maxHeartbeats 1000000 in
theorem num_add_lt (B B' : Nat) (v v' : Int) (k : Nat) (w : World) (h : NumAt w B v) (h' : NumAt w B' v') (_hne : B' ≠ B) (hv : v.natAbs < BB ^ k) (hv' : v'.natAbs < BB ^ k) (hk : k ≤ 1000000) (hs : (decide (v < 0) == decide (v' < 0)) = false) (hlt : v.natAbs < v'.natAbs) :
    Calls Tryd.prog 114 #[.pointer (some ⟨B, 0, none⟩), .pointer (some ⟨B', 0, none⟩)] w fun e w' => (∃ u, e = .returned u) ∧ NumAt w' B (v + v') ∧ w.grownBy w' (some B) := by
  obtain ⟨A, n, c, l, hb, hi, hr⟩ := h
  obtain ⟨A', n', c', l', hb', hi', hr'⟩ := h'
  have hn : n ≤ k := by rw [← hr.len]; exact hi.len hv
  have hn' : n' ≤ k := by rw [← hr'.len]; exact hi'.len hv'
  obtain ⟨⟨g0, g1⟩, g2, g3⟩ := hb.facts2
  obtain ⟨⟨k0, k1⟩, k2, k3⟩ := hb'.facts2
  have hmix : Tryd.prog.follows .mixedOrders = true := by kernel_rfl
  go_enter Tryd.func114, Tryd.ntmps114
  go_wp2_with (first | (go_region) | fail)
  have d1 := And.intro (And.intro g0 g1) (And.intro k0 k1)
  refine (wpIn_wide (n := 0)).1 ?_
  refine wpIn_region_C 100 (fun W => (W.cell? ⟨B, 0, none⟩ = some (.bool (decide (v < 0))) ∧ W.cell? ⟨B, 1, none⟩ = some (.slice A n c)) ∧ W.cell? ⟨B', 0, none⟩ = some (.bool (decide (v' < 0))) ∧ W.cell? ⟨B', 1, none⟩ = some (.slice A' n' c')) hmix ?_
  refine takeC (i := 0) (v := ?vv15) (by kernel_rfl) (by kernel_rfl) rfl (by kernel_rfl) (by kernel_rfl) (by kernel_rfl) (fun _ _ _ h => h) d1 ⟨.inl ⟨rfl, ?yy15⟩, fun _ => rfl⟩ ?_
  case yy15 =>
    rintro wx ⟨⟨q1, q2⟩, q3, q4⟩
    go_simp
    first | done | rfl
  refine takeC (i := 1) (v := ?vv16) (by kernel_rfl) (by kernel_rfl) rfl (by kernel_rfl) (by kernel_rfl) (by kernel_rfl) (fun _ _ _ h => h) d1 ⟨.inl ⟨rfl, ?yy16⟩, fun _ => rfl⟩ ?_
  case yy16 =>
    rintro wx ⟨⟨q1, q2⟩, q3, q4⟩
    go_simp
    first | done | rfl
  refine takeC (i := 2) (v := ?vv17) (by kernel_rfl) (by kernel_rfl) rfl (by kernel_rfl) (by kernel_rfl) (by kernel_rfl) (fun _ _ _ h => h) d1 ⟨.inl ⟨rfl, ?yy17⟩, fun _ => rfl⟩ ?_
  case yy17 =>
    rintro wx ⟨⟨q1, q2⟩, q3, q4⟩
    go_simp
    first | done | rfl
  refine takeC (i := 3) (v := ?vv18) (by kernel_rfl) (by kernel_rfl) rfl (by kernel_rfl) (by kernel_rfl) (by kernel_rfl) (fun _ _ _ h => h) d1 ⟨.inl ⟨rfl, ?yy18⟩, fun _ => rfl⟩ ?_
  case yy18 =>
    rintro wx ⟨⟨q1, q2⟩, q3, q4⟩
    go_simp
    first | done | rfl
  refine takeC (i := 4) (v := ?vv19) (by kernel_rfl) (by kernel_rfl) rfl (by kernel_rfl) (by kernel_rfl) (by kernel_rfl) (fun _ _ _ h => h) d1 ⟨.inl ⟨rfl, ?yy19⟩, fun _ => rfl⟩ ?_
  case yy19 =>
    rintro wx ⟨⟨q1, q2⟩, q3, q4⟩
    go_simp
    first | done | rfl
  refine takeC (i := 5) (v := ?vv20) (by kernel_rfl) (by kernel_rfl) rfl (by kernel_rfl) (by kernel_rfl) (by kernel_rfl) (fun _ _ _ h => h) d1 ⟨.inl ⟨rfl, ?yy20⟩, fun _ => rfl⟩ ?_
  case yy20 =>
    rintro wx ⟨⟨q1, q2⟩, q3, q4⟩
    go_simp
    first | done | rfl
  refine takeC (i := 6) (v := ?vv21) (by kernel_rfl) (by kernel_rfl) rfl (by kernel_rfl) (by kernel_rfl) (by kernel_rfl) (fun _ _ _ h => h) d1 ⟨.inl ⟨rfl, ?yy21⟩, fun _ => rfl⟩ ?_
  case yy21 =>
    rintro wx ⟨⟨q1, q2⟩, q3, q4⟩
    go_simp
    first | done | rfl
  refine takeC (i := 7) (v := ?vv22) (by kernel_rfl) (by kernel_rfl) rfl (by kernel_rfl) (by kernel_rfl) (by kernel_rfl) (fun _ _ _ h => h) d1 ⟨.inl ⟨rfl, ?yy22⟩, fun _ => rfl⟩ ?_
  case yy22 =>
    rintro wx ⟨⟨q1, q2⟩, q3, q4⟩
    go_simp
    first | done | rfl
  refine takeC (i := 8) (v := ?vv23) (by kernel_rfl) (by kernel_rfl) rfl (by kernel_rfl) (by kernel_rfl) (by kernel_rfl) (fun _ _ _ h => h) d1 ⟨.inl ⟨rfl, ?yy23⟩, fun _ => rfl⟩ ?_
  case yy23 =>
    rintro wx ⟨⟨q1, q2⟩, q3, q4⟩
    go_simp
    first | done | rfl
  refine takeC (i := 9) (v := ?vv24) (by kernel_rfl) (by kernel_rfl) rfl (by kernel_rfl) (by kernel_rfl) (by kernel_rfl) (fun _ _ _ h => h) d1 ⟨.inl ⟨rfl, ?yy24⟩, fun _ => rfl⟩ ?_
  case yy24 =>
    rintro wx ⟨⟨q1, q2⟩, q3, q4⟩
    go_simp
    first | done | rfl
  refine oneC (i := 10) (by kernel_rfl) rfl (fun K hK => ?_)
  go_simp
  refine CallsIn.mono (callsIn_wide.2 (sub_less A n c l A' n' c' l' _ (hr.below (((Below.refl _ w).drew).drew)) (hr'.below (((Below.refl _ w).drew).drew)) hi.lt hi'.lt (by rw [hi.val, hi'.val]; exact hlt))) ?_
  rintro e w2 ⟨rfl, hb2⟩
  have hB2 : Below w.heap.size w w2 := (((Below.refl _ w).drew).drew).trans hb2
  have hb3 := hb.kept hB2; have hb3' := hb'.kept hB2
  obtain ⟨⟨m0, m1⟩, m2, m3⟩ := hb3.facts2
  obtain ⟨⟨p0, p1⟩, p2, p3⟩ := hb3'.facts2
  have d3 := And.intro hb3.facts2.1 hb3'.facts2.1
  refine hK _ _ (.inr d3) ?_
  clear hK K
  refine oneC (i := 11) (by kernel_rfl) rfl (fun K hK => ?_)
  go_simp
  refine hK _ _ (.inr d3) ?_
  clear hK K
  refine takeC (i := 12) (v := ?vv25) (by kernel_rfl) (by kernel_rfl) rfl (by kernel_rfl) (by kernel_rfl) (by kernel_rfl) (fun _ _ _ h => h) d3 ⟨.inl ⟨rfl, ?yy25⟩, fun _ => rfl⟩ ?_
  case yy25 =>
    rintro wx ⟨⟨q1, q2⟩, q3, q4⟩
    go_simp
    first | done | rfl
  refine takeC (i := 13) (v := ?vv26) (by kernel_rfl) (by kernel_rfl) rfl (by kernel_rfl) (by kernel_rfl) (by kernel_rfl) (fun _ _ _ h => h) d3 ⟨.inl ⟨rfl, ?yy26⟩, fun _ => rfl⟩ ?_
  case yy26 =>
    rintro wx ⟨⟨q1, q2⟩, q3, q4⟩
    go_simp
    first | done | rfl
  refine takeC (i := 14) (v := ?vv27) (by kernel_rfl) (by kernel_rfl) rfl (by kernel_rfl) (by kernel_rfl) (by kernel_rfl) (fun _ _ _ h => h) d3 ⟨.inl ⟨rfl, ?yy27⟩, fun _ => rfl⟩ ?_
  case yy27 =>
    rintro wx ⟨⟨q1, q2⟩, q3, q4⟩
    go_simp
    first | done | rfl
  refine takeC (i := 15) (v := ?vv28) (by kernel_rfl) (by kernel_rfl) rfl (by kernel_rfl) (by kernel_rfl) (by kernel_rfl) (fun _ _ _ h => h) d3 ⟨.inl ⟨rfl, ?yy28⟩, fun _ => rfl⟩ ?_
  case yy28 =>
    rintro wx ⟨⟨q1, q2⟩, q3, q4⟩
    go_simp
    first | done | rfl
  refine doneP (by kernel_rfl) ?_
  go_wp2
  refine (wpIn_wide (n := 0)).1 ?_
  refine wpIn_region_C 100 (fun W => (W.cell? ⟨B, 0, none⟩ = some (.bool (decide (v < 0))) ∧ W.cell? ⟨B, 1, none⟩ = some (.slice A n c)) ∧ W.cell? ⟨B', 0, none⟩ = some (.bool (decide (v' < 0))) ∧ W.cell? ⟨B', 1, none⟩ = some (.slice A' n' c')) hmix ?_
  refine takeC (i := 0) (v := ?vv29) (by kernel_rfl) (by kernel_rfl) rfl (by kernel_rfl) (by kernel_rfl) (by kernel_rfl) (fun _ _ _ h => h) d3 ⟨.inl ⟨rfl, ?yy29⟩, fun _ => rfl⟩ ?_
  case yy29 =>
    rintro wx ⟨⟨q1, q2⟩, q3, q4⟩
    go_simp
    first | done | rfl
  refine takeC (i := 1) (v := ?vv30) (by kernel_rfl) (by kernel_rfl) rfl (by kernel_rfl) (by kernel_rfl) (by kernel_rfl) (fun _ _ _ h => h) d3 ⟨.inl ⟨rfl, ?yy30⟩, fun _ => rfl⟩ ?_
  case yy30 =>
    rintro wx ⟨⟨q1, q2⟩, q3, q4⟩
    go_simp
    first | done | rfl
  refine takeC (i := 2) (v := ?vv31) (by kernel_rfl) (by kernel_rfl) rfl (by kernel_rfl) (by kernel_rfl) (by kernel_rfl) (fun _ _ _ h => h) d3 ⟨.inl ⟨rfl, ?yy31⟩, fun _ => rfl⟩ ?_
  case yy31 =>
    rintro wx ⟨⟨q1, q2⟩, q3, q4⟩
    go_simp
    first | done | rfl
  refine takeC (i := 3) (v := ?vv32) (by kernel_rfl) (by kernel_rfl) rfl (by kernel_rfl) (by kernel_rfl) (by kernel_rfl) (fun _ _ _ h => h) d3 ⟨.inl ⟨rfl, ?yy32⟩, fun _ => rfl⟩ ?_
  case yy32 =>
    rintro wx ⟨⟨q1, q2⟩, q3, q4⟩
    go_simp
    first | done | rfl
  refine takeC (i := 4) (v := ?vv33) (by kernel_rfl) (by kernel_rfl) rfl (by kernel_rfl) (by kernel_rfl) (by kernel_rfl) (fun _ _ _ h => h) d3 ⟨.inl ⟨rfl, ?yy33⟩, fun _ => rfl⟩ ?_
  case yy33 =>
    rintro wx ⟨⟨q1, q2⟩, q3, q4⟩
    go_simp
    first | done | rfl
  refine takeC (i := 5) (v := ?vv34) (by kernel_rfl) (by kernel_rfl) rfl (by kernel_rfl) (by kernel_rfl) (by kernel_rfl) (fun _ _ _ h => h) d3 ⟨.inl ⟨rfl, ?yy34⟩, fun _ => rfl⟩ ?_
  case yy34 =>
    rintro wx ⟨⟨q1, q2⟩, q3, q4⟩
    go_simp
    first | done | rfl
  refine takeC (i := 6) (v := ?vv35) (by kernel_rfl) (by kernel_rfl) rfl (by kernel_rfl) (by kernel_rfl) (by kernel_rfl) (fun _ _ _ h => h) d3 ⟨.inl ⟨rfl, ?yy35⟩, fun _ => rfl⟩ ?_
  case yy35 =>
    rintro wx ⟨⟨q1, q2⟩, q3, q4⟩
    go_simp
    first | done | rfl
  refine takeC (i := 7) (v := ?vv36) (by kernel_rfl) (by kernel_rfl) rfl (by kernel_rfl) (by kernel_rfl) (by kernel_rfl) (fun _ _ _ h => h) d3 ⟨.inl ⟨rfl, ?yy36⟩, fun _ => rfl⟩ ?_
  case yy36 =>
    rintro wx ⟨⟨q1, q2⟩, q3, q4⟩
    go_simp
    first | done | rfl
  refine takeC (i := 8) (v := ?vv37) (by kernel_rfl) (by kernel_rfl) rfl (by kernel_rfl) (by kernel_rfl) (by kernel_rfl) (fun _ _ _ h => h) d3 ⟨.inl ⟨rfl, ?yy37⟩, fun _ => rfl⟩ ?_
  case yy37 =>
    rintro wx ⟨⟨q1, q2⟩, q3, q4⟩
    go_simp
    first | done | rfl
  refine takeC (i := 9) (v := ?vv38) (by kernel_rfl) (by kernel_rfl) rfl (by kernel_rfl) (by kernel_rfl) (by kernel_rfl) (fun _ _ _ h => h) d3 ⟨.inl ⟨rfl, ?yy38⟩, fun _ => rfl⟩ ?_
  case yy38 =>
    rintro wx ⟨⟨q1, q2⟩, q3, q4⟩
    go_simp
    first | done | rfl
  refine oneC (i := 10) (by kernel_rfl) rfl (fun K hK => ?_)
  go_simp
  have hB2d := hB2.drew
  refine CallsIn.mono (callsIn_wide.2 (sub_any A' n' c' l' A n c l _ (hr'.below hB2d) (hr.below hB2d) hi'.lt hi.lt (by rw [hi.val, hi'.val]; omega) (by omega) (by omega))) ?_
  rintro e w3 ⟨A2, n2, c2, l2, rfl, hi2, hr2, hb4⟩
  have hB3 : Below w.heap.size w w3 := hB2d.trans (hb4.mono hB2d.size)
  have hb5 := hb.kept hB3; have hb5' := hb'.kept hB3
  obtain ⟨⟨s0, s1⟩, s2, s3⟩ := hb5.facts2
  obtain ⟨⟨t0, t1⟩, t2, t3⟩ := hb5'.facts2
  have d5 := And.intro hb5.facts2.1 hb5'.facts2.1
  refine hK _ _ (.inr d5) ?_
  clear hK K
  refine oneC (i := 11) (by kernel_rfl) rfl (fun K hK => ?_)
  go_simp
  refine hK _ _ (.inr d5) ?_
  clear hK K
  refine takeC (i := 12) (v := ?vv39) (by kernel_rfl) (by kernel_rfl) rfl (by kernel_rfl) (by kernel_rfl) (by kernel_rfl) (fun _ _ _ h => h) d5 ⟨.inl ⟨rfl, ?yy39⟩, fun _ => rfl⟩ ?_
  case yy39 =>
    rintro wx ⟨⟨q1, q2⟩, q3, q4⟩
    go_simp
    first | done | rfl
  refine takeC (i := 13) (v := ?vv40) (by kernel_rfl) (by kernel_rfl) rfl (by kernel_rfl) (by kernel_rfl) (by kernel_rfl) (fun _ _ _ h => h) d5 ⟨.inl ⟨rfl, ?yy40⟩, fun _ => rfl⟩ ?_
  case yy40 =>
    rintro wx ⟨⟨q1, q2⟩, q3, q4⟩
    go_simp
    first | done | rfl
  refine takeC (i := 14) (v := ?vv41) (by kernel_rfl) (by kernel_rfl) rfl (by kernel_rfl) (by kernel_rfl) (by kernel_rfl) (fun _ _ _ h => h) d5 ⟨.inl ⟨rfl, ?yy41⟩, fun _ => rfl⟩ ?_
  case yy41 =>
    rintro wx ⟨⟨q1, q2⟩, q3, q4⟩
    go_simp
    first | done | rfl
  refine doneP (by kernel_rfl) ?_
  have hv2 : iv (decide (v' < 0)) l2 = v + v' := by
    unfold iv
    rw [hi2.val, hi.val, hi'.val]
    have hs' := beq_eq_false_iff_ne.1 hs
    by_cases h0 : v < 0
    · have h1 : ¬ v' < 0 := fun h1 => hs' (by rw [decide_eq_true h0, decide_eq_true h1])
      rw [decide_eq_false h1]
      simp only [Bool.false_eq_true, if_false]
      omega
    · have h1 : v' < 0 := Decidable.byContradiction fun h1 => hs' (by rw [decide_eq_false h0, decide_eq_false h1])
      rw [decide_eq_true h1]
      simp only [if_true]
      omega
  have hn2 : n2 ≤ k := by
    rw [← hr2.len]
    exact hi2.len (Nat.lt_of_le_of_lt (Nat.sub_le _ _) (by rw [hi'.val]; exact hv'))
  go_wp2_with (go_at_call 112; refine (norm_any B _ A2 n2 c2 l2 _ ((hb5.set 0 _).set 1 _) ((hr2.setN hb5 (i := 0) rfl (fun _ => by simp) _).setN (hb5.set 0 _) (i := 1) rfl (fun _ => by simp) _) hi2.lt (by omega)).mono ?_; rintro e w4 ⟨rfl, hn4, hg4⟩)
  go_end0
  exact ⟨⟨_, rfl⟩, by rw [hv2] at hn4; exact hn4, ((below_none hB3).but (some B)).trans ((setCell_grown w3 ⟨B, 0, none⟩ _).trans ((setCell_grown _ ⟨B, 1, none⟩ _).trans hg4))⟩
end Go.Proofs.Wd
