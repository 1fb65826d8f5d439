/- The walk of straitlaw05.SintOrder. -/
import Derived.Test.YtghgemeclgpibaaLaw5C
import Derived.Test.YtghgemeclgpibaaVals
import Derived.Test.YtghgemeclgpibaaFork
namespace Go.Proofs.Wd
open Go.RowKit Lb
attribute [local go_sem] Oper.semAt_some wide_fn wide_depth

/-- The boxes of three integers in memory. -/
def Box3 (W : World) (b : Nat) (s : Bool) (A : Option Addr) (n c : Nat) (s' : Bool) (A' : Option Addr) (n' c' : Nat) (s'' : Bool) (A'' : Option Addr) (n'' c'' : Nat) : Prop :=
  (W.cell? ⟨b, 0, none⟩ = some (.bool s) ∧ W.cell? ⟨b, 1, none⟩ = some (.slice A n c)) ∧ (W.cell? ⟨b + 1, 0, none⟩ = some (.bool s') ∧ W.cell? ⟨b + 1, 1, none⟩ = some (.slice A' n' c')) ∧
    W.cell? ⟨b + 1 + 1, 0, none⟩ = some (.bool s'') ∧ W.cell? ⟨b + 1 + 1, 1, none⟩ = some (.slice A'' n'' c'')

set_option maxRecDepth 100000 in
set_option maxHeartbeats 2000000 in
theorem order_any (s : Bool) (A : Option Addr) (n c : Nat) (l : List Nat) (s' : Bool) (A' : Option Addr) (n' c' : Nat) (l' : List Nat) (s'' : Bool) (A'' : Option Addr) (n'' c'' : Nat) (l'' : List Nat) (w : World)
    (h : Rd w A n c l) (ht : Lt l) (h' : Rd w A' n' c' l') (ht' : Lt l') (h'' : Rd w A'' n'' c'' l'') (ht'' : Lt l'') :
    Calls Try.prog 4 #[.agg #[.bool s, .slice A n c], .agg #[.bool s', .slice A' n' c'], .agg #[.bool s'', .slice A'' n'' c'']] w fun e w' => e = .returned (.bool true) ∧ Below w.heap.size w w' := by
  have hmix : Try.prog.follows .mixedOrders = true := by kernel_rfl
  obtain ⟨W0, hW0⟩ : ∃ W0, (((w.alloc (.cells #[.bool s, .slice A n c] 25)).alloc (.cells #[.bool s', .slice A' n' c'] 25)).alloc (.cells #[.bool s'', .slice A'' n'' c''] 25)) = W0 := ⟨_, rfl⟩
  have x0 : BoxN W0 w.heap.size 25 #[.bool s, .slice A n c] := by rw [← hW0]; exact ((BoxN.new w _ _).alloc _).alloc _
  have x1 : BoxN W0 (w.heap.size + 1) 25 #[.bool s', .slice A' n' c'] := by rw [← hW0]; exact (BoxN.at_ _ _ _ (by simp)).alloc _
  have x2 : BoxN W0 (w.heap.size + 1 + 1) 25 #[.bool s'', .slice A'' n'' c''] := by rw [← hW0]; exact BoxN.at_ _ _ _ (by simp)
  have hB0 : Below w.heap.size w W0 := by rw [← hW0]; exact (((Below.refl _ w).alloc (Nat.le_refl _) _).alloc (by simp) _).alloc (by simp; omega) _
  have y : Rd W0 A n c l := h.below hB0
  have y' : Rd W0 A' n' c' l' := h'.below hB0
  have y'' : Rd W0 A'' n'' c'' l'' := h''.below hB0
  have bx : ∀ W, Below W0.heap.size W0 W → Box3 W w.heap.size s A n c s' A' n' c' s'' A'' n'' c'' := fun W hb => ⟨(x0.kept hb).facts2.1, (x1.kept hb).facts2.1, (x2.kept hb).facts2.1⟩
  have big := great_v (IS.three y ht (Nat.le_trans h.le h.cap) y' ht' (Nat.le_trans h'.le h'.cap) y'' ht'' (Nat.le_trans h''.le h''.cap) (s := s) (s' := s') (s'' := s'') 25) (Nat.le_refl _) (by simp)
  obtain ⟨g, hg⟩ : ∃ g, greatI [(s, l), (s', l'), (s'', l'')] = g := ⟨_, rfl⟩
  rw [hg] at big
  have hsz : W0.heap.size = w.heap.size + 1 + 1 + 1 := by rw [← hW0]; simp
  rw [hsz] at big
  obtain ⟨⟨a1, a2⟩, ⟨a3, a4⟩, a5, a6⟩ := bx W0 (Below.refl _ _)
  have b1 : Below W0.heap.size W0 (W0.alloc (.cells #[.bool s, .slice A n c, .bool s', .slice A' n' c', .bool s'', .slice A'' n'' c''] 25)) := (Below.refl _ _).alloc (Nat.le_refl _) _
  cases g
  case true =>
    clear hg
    go_enter Try.func4, Try.ntmps4
    go_wp2_with (first | (go_at_call 8; refine big.mono ?_; rintro e w1 ⟨rfl, rfl⟩) | (go_at_call 9; refine (wakes_any _).mono ?_; rintro e w2 ⟨rfl, b2⟩))
    go_ret
    have t1 := hB0.trans (b1.mono hB0.size)
    exact ⟨rfl, t1.trans (b2.mono t1.size)⟩
  case false =>
    obtain ⟨m1, m2, m3⟩ := great_three hg
    clear hg
    simp only at m1 m2 m3
    rw [h.len] at m1; rw [h'.len] at m2; rw [h''.len] at m3
    have ua : ∀ W, Below W0.heap.size W0 W → UV W 60 (.agg #[.bool s, .slice A n c]) (iv s l) := fun W hb => UV.mk (y.below hb) ht m1
    have ub : ∀ W, Below W0.heap.size W0 W → UV W 60 (.agg #[.bool s', .slice A' n' c']) (iv s' l') := fun W hb => UV.mk (y'.below hb) ht' m2
    have uc : ∀ W, Below W0.heap.size W0 W → UV W 60 (.agg #[.bool s'', .slice A'' n'' c'']) (iv s'' l'') := fun W hb => UV.mk (y''.below hb) ht'' m3
    have k1 := fun W hb => cmp_v (ua W hb) (ub W hb) (by omega)
    have k2 := fun W hb => cmp_v (ub W hb) (ua W hb) (by omega)
    have k3 := fun W hb => cmp_v (ub W hb) (uc W hb) (by omega)
    have k4 := fun W hb => cmp_v (ua W hb) (uc W hb) (by omega)
    have k5 := fun W hb => same_v (ua W hb) (ub W hb) (by omega)
    have k6 := fun W hb => sub_v (ua W hb) (ub W hb) (by omega)
    have k7 := fun W hb => neg_v (ua W hb) (by omega)
    have k8 := fun W hb => neg_v (ub W hb) (by omega)
    have e1 := fun (W : World) (v : Value) (hv : IS W 60 v [(s, l), (s'', l'')]) => add_v hv (by omega) (by simp)
    have e2 := fun (W : World) (v : Value) (hv : IS W 60 v [(s', l'), (s'', l'')]) => add_v hv (by omega) (by simp)
    have j1 : isum [(s, l), (s'', l'')] [(s, l), (s'', l'')].length = iv s l + iv s'' l'' := isum_two _ _
    have j2 : isum [(s', l'), (s'', l'')] [(s', l'), (s'', l'')].length = iv s' l' + iv s'' l'' := isum_two _ _
    rw [j1] at e1
    rw [j2] at e2
    clear j1 j2
    have q1 := (ua W0 (Below.refl _ _)).bound
    have q2 := (ub W0 (Below.refl _ _)).bound
    have q3 := (uc W0 (Below.refl _ _)).bound
    have hE1 := fun (W : World) (t : TypeId) (hb : Below W0.heap.size W0 W) => IS.two (s := s) (s' := s'') (y.below hb) ht m1 (y''.below hb) ht'' m3 t
    have hE3 := fun (W : World) (t : TypeId) (hb : Below W0.heap.size W0 W) => IS.two (s := s') (s' := s'') (y'.below hb) ht' m2 (y''.below hb) ht'' m3 t
    have g1 : (iv s l + iv s'' l'').natAbs < BB ^ 61 := by rw [Nat.pow_succ]; unfold BB at *; omega
    have g2 : (iv s' l' + iv s'' l'').natAbs < BB ^ 61 := by rw [Nat.pow_succ]; unfold BB at *; omega
    have g3 : (-iv s l).natAbs < BB ^ 61 := by rw [Nat.pow_succ]; unfold BB at *; omega
    have g4 : (-iv s' l').natAbs < BB ^ 61 := by rw [Nat.pow_succ]; unfold BB at *; omega
    have g5 : (iv s l - iv s' l').natAbs < BB ^ 61 := by rw [Nat.pow_succ]; unfold BB at *; omega
    clear q1 q2 q3
    obtain ⟨va, hva⟩ : ∃ v, iv s l = v := ⟨_, rfl⟩
    obtain ⟨vb, hvb⟩ : ∃ v, iv s' l' = v := ⟨_, rfl⟩
    obtain ⟨vc, hvc⟩ : ∃ v, iv s'' l'' = v := ⟨_, rfl⟩
    rw [hva] at k1 k2 k4 k5 k6 k7 e1 g1 g3 g5
    rw [hvb] at k1 k2 k3 k5 k6 k8 e2 g2 g4 g5
    rw [hvc] at k3 k4 e1 e2 g1 g2
    clear ua ub uc hva hvb hvc
    have k9 := fun (W : World) (v v' : Value) (hv : NV W v (va + vc)) (hv' : NV W v' (vb + vc)) => cmp_v (hv.uv g1) (hv'.uv g2) (by omega)
    have k10 := fun (W : World) (v v' : Value) (hv : NV W v (-vb)) (hv' : NV W v' (-va)) => cmp_v (hv.uv g4) (hv'.uv g3) (by omega)
    have k11 := fun (W : World) (v : Value) (hv : NV W v (va - vb)) => sign_v (hv.uv g5) (by omega)
    rw [sign_shift] at k9
    rw [sign_turn] at k10
    rw [sign_swap va vb] at k2
    have hp := @sign_pass va vb vc
    have hs1 := sign_cases (va - vb)
    have hs2 := sign_cases (vb - vc)
    have hs3 := sign_cases (va - vc)
    obtain ⟨N, hN⟩ : ∃ v, (va - vb).sign = v := ⟨_, rfl⟩
    obtain ⟨M, hM⟩ : ∃ v, (vb - vc).sign = v := ⟨_, rfl⟩
    obtain ⟨L, hL⟩ : ∃ v, (va - vc).sign = v := ⟨_, rfl⟩
    rw [hN] at k1 k2 k5 k9 k10 k11 hp hs1
    rw [hM] at k3 hp hs2
    rw [hL] at k4 hp hs3
    clear hN hM hL
    have n1 : -1 ≤ N := by omega
    have n2 : N ≤ 1 := by omega
    have n3 : -1 ≤ M := by omega
    have n4 : M ≤ 1 := by omega
    have n5 : -1 ≤ L := by omega
    have n6 : L ≤ 1 := by omega
    clear hs1 hs2 hs3
    have o1 : decide (N < -1) = false := decide_eq_false (by omega)
    have o2 : decide (1 < N) = false := decide_eq_false (by omega)
    rcases (by omega : 0 < N ∨ (N ≤ 0 ∧ 0 < M) ∨ (N ≤ 0 ∧ M ≤ 0 ∧ L ≤ 0)) with n7 | ⟨n7, n8⟩ | ⟨n7, n8, n9⟩
    all_goals
      clear hp
      go_enter Try.func4, Try.ntmps4
      go_wp2_with (first | (go_at_call 8; refine big.mono ?_; rintro e w1 ⟨rfl, rfl⟩) | (go_at_call 18; first | ((with_reducible refine (k1 _ b1).mono ?_); rintro e w2 ⟨rfl, zb2⟩; have b2 := b1.trans (zb2.mono b1.size); obtain ⟨⟨a1, a2⟩, ⟨a3, a4⟩, a5, a6⟩ := bx w2 b2) | ((with_reducible refine (k2 _ b2).mono ?_); rintro e w3 ⟨rfl, zb3⟩; have b3 := b2.trans (zb3.mono b2.size); obtain ⟨⟨a1, a2⟩, ⟨a3, a4⟩, a5, a6⟩ := bx w3 b3) | ((with_reducible refine (k3 _ b3).mono ?_); rintro e w4 ⟨rfl, zb4⟩; have b4 := b3.trans (zb4.mono b3.size); obtain ⟨⟨a1, a2⟩, ⟨a3, a4⟩, a5, a6⟩ := bx w4 b4) | ((with_reducible refine (k4 _ b4).mono ?_); rintro e w5 ⟨rfl, zb5⟩; have b5 := b4.trans (zb5.mono b4.size); obtain ⟨⟨a1, a2⟩, ⟨a3, a4⟩, a5, a6⟩ := bx w5 b5)) | (go_at_call 19; first | ((with_reducible refine (k5 _ b5).mono ?_); rintro e w6 ⟨rfl, zb6⟩; have b6 := b5.trans (zb6.mono b5.size); obtain ⟨⟨a1, a2⟩, ⟨a3, a4⟩, a5, a6⟩ := bx w6 b6) | ((with_reducible refine (k5 _ b4).mono ?_); rintro e w6 ⟨rfl, zb6⟩; have b6 := b4.trans (zb6.mono b4.size); obtain ⟨⟨a1, a2⟩, ⟨a3, a4⟩, a5, a6⟩ := bx w6 b6) | ((with_reducible refine (k5 _ b3).mono ?_); rintro e w6 ⟨rfl, zb6⟩; have b6 := b3.trans (zb6.mono b3.size); obtain ⟨⟨a1, a2⟩, ⟨a3, a4⟩, a5, a6⟩ := bx w6 b6)))
      refine (wpIn_wide (n := 0)).1 ?_
      clear a1 a2 a3 a4 a5 a6 k1 k2 k3 k4 k5
      have cf : ∀ W, Below w6.heap.size w6 W → Box3 W w.heap.size s A n c s' A' n' c' s'' A'' n'' c'' ∧ Below w6.heap.size w6 W := fun W hb => ⟨bx W (b6.trans (hb.mono b6.size)), hb⟩
      have up : ∀ W, Below w6.heap.size w6 W → Below W0.heap.size W0 W := fun W hb => b6.trans (hb.mono b6.size)
      refine wpIn_region_C 100 (fun W => Box3 W w.heap.size s A n c s' A' n' c' s'' A'' n'' c'' ∧ Below w6.heap.size w6 W) hmix ?_
      have c0 := cf w6.drew (Below.refl _ w6).drew
      refine takeC (i := 0) (v := ?vv1) (by kernel_rfl) (by kernel_rfl) rfl (by kernel_rfl) (by kernel_rfl) (by kernel_rfl) (fun _ _ _ h => h) c0 ⟨.inl ⟨rfl, ?yy1⟩, fun _ => rfl⟩ ?_
      case yy1 =>
        rintro wx ⟨⟨⟨q1, q2⟩, ⟨q3, q4⟩, q5, q6⟩, _⟩
        go_simp
        first | done | rfl
      refine takeC (i := 1) (v := ?vv2) (by kernel_rfl) (by kernel_rfl) rfl (by kernel_rfl) (by kernel_rfl) (by kernel_rfl) (fun _ _ _ h => h) c0 ⟨.inl ⟨rfl, ?yy2⟩, fun _ => rfl⟩ ?_
      case yy2 =>
        rintro wx ⟨⟨⟨q1, q2⟩, ⟨q3, q4⟩, q5, q6⟩, _⟩
        go_simp
        first | done | rfl
      refine takeC (i := 4) (v := ?vv3) (by kernel_rfl) (by kernel_rfl) rfl (by kernel_rfl) (by kernel_rfl) (by kernel_rfl) (fun _ _ _ h => h) c0 ⟨.inl ⟨rfl, ?yy3⟩, fun _ => rfl⟩ ?_
      case yy3 =>
        rintro wx ⟨⟨⟨q1, q2⟩, ⟨q3, q4⟩, q5, q6⟩, _⟩
        go_simp
        first | done | rfl
      refine takeC (i := 5) (v := ?vv4) (by kernel_rfl) (by kernel_rfl) rfl (by kernel_rfl) (by kernel_rfl) (by kernel_rfl) (fun _ _ _ h => h) c0 ⟨.inl ⟨rfl, ?yy4⟩, fun _ => rfl⟩ ?_
      case yy4 =>
        rintro wx ⟨⟨⟨q1, q2⟩, ⟨q3, q4⟩, q5, q6⟩, _⟩
        go_simp
        first | done | rfl
      refine takeC (i := 9) (v := ?vv5) (by kernel_rfl) (by kernel_rfl) rfl (by kernel_rfl) (by kernel_rfl) (by kernel_rfl) (fun _ _ _ h => h) c0 ⟨.inl ⟨rfl, ?yy5⟩, fun _ => rfl⟩ ?_
      case yy5 =>
        rintro wx ⟨⟨⟨q1, q2⟩, ⟨q3, q4⟩, q5, q6⟩, _⟩
        go_simp
        first | done | rfl
      refine three_orders (i := 2) (j := 3) (k := 6) (some 57) (some 58) (some 61) (by kernel_rfl) (by kernel_rfl) (by kernel_rfl) (by kernel_rfl) (by kernel_rfl) (by decide) (by decide) (by decide) (fun d e => by cases e; simp) (fun d e => by cases e; simp) (fun v W => IS W 60 v [(s, l), (s'', l'')]) (fun v W => NV W v (va + vc)) (fun v W => IS W 60 v [(s', l'), (s'', l'')]) (fun W W' hc hb => cf W' (hc.2.trans (hb.mono hc.2.size))) (fun _ _ _ h hb => h.below hb) (fun _ _ _ h hb => h.below hb) (fun _ _ _ h hb => h.below hb) c0 ?si0 ?si1 ?sk0 ?sk1 ?sk2 ?sj0 ?sj1 ?tail
      case si0 =>
        intro W K hc hK
        refine wpOpIn_step rfl (fun K' hK' => ?_)
        go_simp
        exact hK' _ _ (hK _ _ _ (by kernel_rfl) (hE1 W _ (up W hc.2)) ((Below.refl _ W).alloc (Nat.le_refl _) _))
      case si1 =>
        intro vk W K hc hK
        refine wpOpIn_step rfl (fun K' hK' => ?_)
        go_simp
        exact hK' _ _ (hK _ _ _ (by kernel_rfl) (hE1 W _ (up W hc.2)) ((Below.refl _ W).alloc (Nat.le_refl _) _))
      case sk0 =>
        intro W K hc hK
        refine wpOpIn_step rfl (fun K' hK' => ?_)
        go_simp
        exact hK' _ _ (hK _ _ _ (by kernel_rfl) (hE3 W _ (up W hc.2)) ((Below.refl _ W).alloc (Nat.le_refl _) _))
      case sk1 =>
        intro vi W K hc hK
        refine wpOpIn_step rfl (fun K' hK' => ?_)
        go_simp
        exact hK' _ _ (hK _ _ _ (by kernel_rfl) (hE3 W _ (up W hc.2)) ((Below.refl _ W).alloc (Nat.le_refl _) _))
      case sk2 =>
        intro vi vj W K hc hK
        refine wpOpIn_step rfl (fun K' hK' => ?_)
        go_simp
        exact hK' _ _ (hK _ _ _ (by kernel_rfl) (hE3 W _ (up W hc.2)) ((Below.refl _ W).alloc (Nat.le_refl _) _))
      case sj0 =>
        intro vi W K hc hE hK
        refine wpOpIn_step rfl (fun K' hK' => ?_)
        go_simp
        refine CallsIn.mono (callsIn_wide.2 (e1 W vi hE)) ?_
        rintro e W' ⟨v, rfl, hn, hb⟩
        exact hK' _ _ (hK _ _ _ (by kernel_rfl) hn hb)
      case sj1 =>
        intro vi vk W K hc hE hK
        refine wpOpIn_step rfl (fun K' hK' => ?_)
        go_simp
        refine CallsIn.mono (callsIn_wide.2 (e1 W vi hE)) ?_
        rintro e W' ⟨v, rfl, hn, hb⟩
        exact hK' _ _ (hK _ _ _ (by kernel_rfl) hn hb)
      case tail =>
        intro vi vj vk W hc h1 h2 h3
        have B0 := hc.2
        clear hc h1
        refine oneC (i := 7) (by kernel_rfl) rfl (fun K hK => ?_)
        go_simp
        refine CallsIn.mono (callsIn_wide.2 (e2 W vk h3)) ?_
        rintro e W1 ⟨v7, rfl, h7, z1⟩
        have B1 := B0.trans (z1.mono B0.size)
        have cB1 := cf _ B1
        refine hK _ _ (.inr cB1) ?_
        clear hK K
        refine oneC (i := 8) (by kernel_rfl) rfl (fun K hK => ?_)
        go_simp
        refine CallsIn.mono (callsIn_wide.2 (k9 W1 vj v7 (h2.below z1) h7)) ?_
        rintro e W2 ⟨rfl, z2⟩
        have B2 := B1.trans (z2.mono B1.size)
        have cB2 := cf _ B2
        refine hK _ _ (.inr cB2) ?_
        clear hK K
        refine oneC (i := 10) (by kernel_rfl) rfl (fun K hK => ?_)
        go_simp
        refine hK _ _ (.inr cB2) ?_
        clear hK K
        refine oneC (i := 11) (by kernel_rfl) rfl (fun K hK => ?_)
        go_simp
        refine hK _ _ (.inr cB2) ?_
        clear hK K
        refine takeC (i := 12) (v := ?vv6) (by kernel_rfl) (by kernel_rfl) rfl (by kernel_rfl) (by kernel_rfl) (by kernel_rfl) (fun _ _ _ h => h) cB2 ⟨.inl ⟨rfl, ?yy6⟩, fun _ => rfl⟩ ?_
        case yy6 =>
          rintro wx ⟨⟨⟨q1, q2⟩, ⟨q3, q4⟩, q5, q6⟩, _⟩
          go_simp
          first | done | rfl
        refine takeC (i := 14) (v := ?vv7) (by kernel_rfl) (by kernel_rfl) rfl (by kernel_rfl) (by kernel_rfl) (by kernel_rfl) (fun _ _ _ h => h) cB2 ⟨.inl ⟨rfl, ?yy7⟩, fun _ => rfl⟩ ?_
        case yy7 =>
          rintro wx ⟨⟨⟨q1, q2⟩, ⟨q3, q4⟩, q5, q6⟩, _⟩
          go_simp
          first | done | rfl
        refine takeC (i := 17) (v := ?vv8) (by kernel_rfl) (by kernel_rfl) rfl (by kernel_rfl) (by kernel_rfl) (by kernel_rfl) (fun _ _ _ h => h) cB2 ⟨.inl ⟨rfl, ?yy8⟩, fun _ => rfl⟩ ?_
        case yy8 =>
          rintro wx ⟨⟨⟨q1, q2⟩, ⟨q3, q4⟩, q5, q6⟩, _⟩
          go_simp
          first | done | rfl
        refine oneC (i := 13) (by kernel_rfl) rfl (fun K hK => ?_)
        go_simp
        refine CallsIn.mono (callsIn_wide.2 (k8 W2 (up W2 B2))) ?_
        rintro e W3 ⟨v13, rfl, h13, z3⟩
        have B3 := B2.trans (z3.mono B2.size)
        have cB3 := cf _ B3
        refine hK _ _ (.inr cB3) ?_
        clear hK K
        refine oneC (i := 15) (by kernel_rfl) rfl (fun K hK => ?_)
        go_simp
        refine CallsIn.mono (callsIn_wide.2 (k7 W3 (up W3 B3))) ?_
        rintro e W4 ⟨v15, rfl, h15, z4⟩
        have B4 := B3.trans (z4.mono B3.size)
        have cB4 := cf _ B4
        refine hK _ _ (.inr cB4) ?_
        clear hK K
        refine oneC (i := 16) (by kernel_rfl) rfl (fun K hK => ?_)
        go_simp
        refine CallsIn.mono (callsIn_wide.2 (k10 W4 v13 v15 (h13.below z4) h15)) ?_
        rintro e W5 ⟨rfl, z5⟩
        have B5 := B4.trans (z5.mono B4.size)
        have cB5 := cf _ B5
        refine hK _ _ (.inr cB5) ?_
        clear hK K
        refine oneC (i := 18) (by kernel_rfl) rfl (fun K hK => ?_)
        go_simp
        refine hK _ _ (.inr cB5) ?_
        clear hK K
        refine oneC (i := 19) (by kernel_rfl) rfl (fun K hK => ?_)
        go_simp
        refine hK _ _ (.inr cB5) ?_
        clear hK K
        refine oneC (i := 20) (by kernel_rfl) rfl (fun K hK => ?_)
        go_simp
        refine hK _ _ (.inr cB5) ?_
        clear hK K
        refine takeC (i := 21) (v := ?vv9) (by kernel_rfl) (by kernel_rfl) rfl (by kernel_rfl) (by kernel_rfl) (by kernel_rfl) (fun _ _ _ h => h) cB5 ⟨.inl ⟨rfl, ?yy9⟩, fun _ => rfl⟩ ?_
        case yy9 =>
          rintro wx ⟨⟨⟨q1, q2⟩, ⟨q3, q4⟩, q5, q6⟩, _⟩
          go_simp
          first | done | rfl
        refine takeC (i := 22) (v := ?vv10) (by kernel_rfl) (by kernel_rfl) rfl (by kernel_rfl) (by kernel_rfl) (by kernel_rfl) (fun _ _ _ h => h) cB5 ⟨.inl ⟨rfl, ?yy10⟩, fun _ => rfl⟩ ?_
        case yy10 =>
          rintro wx ⟨⟨⟨q1, q2⟩, ⟨q3, q4⟩, q5, q6⟩, _⟩
          go_simp
          first | done | rfl
        refine takeC (i := 25) (v := ?vv11) (by kernel_rfl) (by kernel_rfl) rfl (by kernel_rfl) (by kernel_rfl) (by kernel_rfl) (fun _ _ _ h => h) cB5 ⟨.inl ⟨rfl, ?yy11⟩, fun _ => rfl⟩ ?_
        case yy11 =>
          rintro wx ⟨⟨⟨q1, q2⟩, ⟨q3, q4⟩, q5, q6⟩, _⟩
          go_simp
          first | done | rfl
        refine oneC (i := 23) (by kernel_rfl) rfl (fun K hK => ?_)
        go_simp
        refine CallsIn.mono (callsIn_wide.2 (k6 W5 (up W5 B5))) ?_
        rintro e W6 ⟨v23, rfl, h23, z6⟩
        have B6 := B5.trans (z6.mono B5.size)
        have cB6 := cf _ B6
        refine hK _ _ (.inr cB6) ?_
        clear hK K
        refine oneC (i := 24) (by kernel_rfl) rfl (fun K hK => ?_)
        go_simp
        refine CallsIn.mono (callsIn_wide.2 (k11 W6 v23 h23)) ?_
        rintro e W7 ⟨rfl, z7⟩
        have B7 := B6.trans (z7.mono B6.size)
        have cB7 := cf _ B7
        refine hK _ _ (.inr cB7) ?_
        clear hK K
        refine oneC (i := 26) (by kernel_rfl) rfl (fun K hK => ?_)
        go_simp
        refine hK _ _ (.inr cB7) ?_
        clear hK K
        refine oneC (i := 27) (by kernel_rfl) rfl (fun K hK => ?_)
        go_simp
        refine hK _ _ (.inr cB7) ?_
        clear hK K
        refine oneC (i := 28) (by kernel_rfl) rfl (fun K hK => ?_)
        go_simp
        refine hK _ _ (.inr cB7) ?_
        clear hK K
        refine oneC (i := 29) (by kernel_rfl) rfl (fun K hK => ?_)
        go_simp
        refine CallsIn.mono (callsIn_wide.2 (wakes_any W7)) ?_
        rintro e W8 ⟨rfl, z8⟩
        have B8 := B7.trans (z8.mono B7.size)
        have cB8 := cf _ B8
        refine hK _ _ (.inr cB8) ?_
        clear hK K
        refine oneC (i := 30) (by kernel_rfl) rfl (fun K hK => ?_)
        go_simp
        refine hK _ _ (.inr cB8) ?_
        clear hK K
        refine oneC (i := 31) (by kernel_rfl) rfl (fun K hK => ?_)
        go_simp
        refine hK _ _ (.inr cB8) ?_
        clear hK K
        refine doneP (by kernel_rfl) ?_
        go_wp2
        go_ret
        have t1 := hB0.trans ((up W8 B8).mono hB0.size)
        exact ⟨rfl, t1⟩
end Go.Proofs.Wd
