/- The walk of straitlaw05.SintFloor. -/
import Derived.Test.YtghgemeclgpibaaLaw5B
import Derived.Test.YtghgemeclgpibaaQuotC
import Derived.Test.YtghgemeclgpibaaRef5C
namespace Go.Proofs.Wd
open Go.RowKit Lb
attribute [local go_sem] Oper.semAt_some wide_fn wide_depth

theorem lawsame_v {W : World} {v v' : Value} {k : Int} (h : NV W v k) (h' : NV W v' k) : Calls Try.prog 13 #[v, v'] W fun e w' => e = .returned (.bool true) ∧ Below W.heap.size W w' := by
  obtain ⟨A, n, c, l, rfl, h1, h2⟩ := h
  obtain ⟨A', n', c', l', rfl, h1', h2'⟩ := h'
  have := lawsame_any k A n c l k A' n' c' l' W h2 h1 h2' h1' _ _ rfl rfl
  rwa [decide_eq_true (rfl : k = k)] at this
theorem r5norm_v {W : World} {m : Nat} {v : Value} {k : Int} (h : UV W m v k) (hm : m ≤ 100000) : Calls Try.prog 16 #[v] W (RetV W k) := by
  obtain ⟨s, A, n, c, l, rfl, h1, h2, h3, rfl⟩ := h
  exact (r5norm_any s A n c l W h1 h2 (by omega)).mono fun _ _ => RetInt.v

/-- How great quotient and rest are. -/
theorem floor_sizes {va vb q r : Int} {M : Nat} (h : va = q * vb + r) (hf : FloorRest r vb) (ha : va.natAbs < BB ^ M) (hb : vb.natAbs < BB ^ M) : q.natAbs < BB ^ (M + 1) ∧ r.natAbs < BB ^ (M + 1) ∧ (q * vb).natAbs < BB ^ (M + 1) ∧ r.natAbs < vb.natAbs ∧ (r.sign = 0 ∨ r.sign = vb.sign) := by
  have hp : 0 < BB ^ M := Nat.pow_pos BB_pos
  have h1 : BB ^ (M + 1) = BB ^ M * BB := Nat.pow_succ ..
  have h2 : BB ^ M * 2 ≤ BB ^ M * BB := Nat.mul_le_mul_left _ (by unfold BB; omega)
  have hr : r.natAbs < vb.natAbs := by unfold FloorRest at hf; omega
  have hqb : (q * vb).natAbs < BB ^ (M + 1) := by
    have : q * vb = va - r := by omega
    rw [this, h1]
    omega
  have hqq : q.natAbs ≤ (q * vb).natAbs := by
    rw [Int.natAbs_mul]
    exact Nat.le_mul_of_pos_right _ (by omega)
  refine ⟨Nat.lt_of_le_of_lt hqq hqb, by omega, hqb, hr, ?_⟩
  unfold FloorRest at hf
  rcases hf with ⟨e1, e2⟩ | ⟨e1, e2⟩
  · rcases (by omega : r = 0 ∨ 0 < r) with e | e
    · subst e; exact .inl rfl
    · right; rw [Int.sign_eq_one_of_pos e, Int.sign_eq_one_of_pos (by omega)]
  · rcases (by omega : r = 0 ∨ r < 0) with e | e
    · subst e; exact .inl rfl
    · right; rw [Int.sign_eq_neg_one_of_neg e, Int.sign_eq_neg_one_of_neg (by omega)]

theorem prod_two_bound {p q : Bool × List Nat} {M : Nat} (hM : 0 < M) (h1 : (iv p.1 p.2).natAbs < BB ^ M) (h2 : (iv p.1 p.2 * iv q.1 q.2).natAbs < BB ^ M) (k : Nat) (hk : k ≤ [p, q].length) : (iprod [p, q] k).natAbs < BB ^ M := by
  have hp : 1 < BB ^ M := Nat.one_lt_pow (by omega) (by unfold BB; omega)
  rcases (by simp at hk; omega : k = 0 ∨ k = 1 ∨ k = 2) with rfl | rfl | rfl
  · exact hp
  · show (1 * iv p.1 p.2).natAbs < _
    rwa [Int.one_mul]
  · show (1 * iv p.1 p.2 * iv q.1 q.2).natAbs < _
    rwa [Int.one_mul]
theorem sum_two_bound {p q : Bool × List Nat} {M : Nat} (h1 : (iv p.1 p.2).natAbs < BB ^ M) (h2 : (iv p.1 p.2 + iv q.1 q.2).natAbs < BB ^ M) (k : Nat) (hk : k ≤ [p, q].length) : (isum [p, q] k).natAbs < BB ^ M := by
  have hp : 0 < BB ^ M := Nat.pow_pos BB_pos
  rcases (by simp at hk; omega : k = 0 ∨ k = 1 ∨ k = 2) with rfl | rfl | rfl
  · exact hp
  · show (0 + iv p.1 p.2).natAbs < _
    rwa [Int.zero_add]
  · show (0 + iv p.1 p.2 + iv q.1 q.2).natAbs < _
    rwa [Int.zero_add]

set_option maxRecDepth 100000 in
set_option maxHeartbeats 2000000 in
theorem floor_any (s : Bool) (A : Option Addr) (n c : Nat) (l : List Nat) (s' : Bool) (A' : Option Addr) (n' c' : Nat) (l' : List Nat) (w : World) (h : Rd w A n c l) (ht : Lt l) (h' : Rd w A' n' c' l') (ht' : Lt l') :
    Calls Try.prog 3 #[.agg #[.bool s, .slice A n c], .agg #[.bool s', .slice A' n' c']] w fun e w' => e = .returned (.bool true) ∧ Below w.heap.size w w' := by
  have hmix : Try.prog.follows .mixedOrders = true := by kernel_rfl
  obtain ⟨W0, hW0⟩ : ∃ W0, ((w.alloc (.cells #[.bool s, .slice A n c] 25)).alloc (.cells #[.bool s', .slice A' n' c'] 25)) = W0 := ⟨_, rfl⟩
  have x0 : BoxN W0 w.heap.size 25 #[.bool s, .slice A n c] := by rw [← hW0]; exact (BoxN.new w _ _).alloc _
  have x1 : BoxN W0 (w.heap.size + 1) 25 #[.bool s', .slice A' n' c'] := by rw [← hW0]; exact BoxN.at_ _ _ _ (by simp)
  have hB0 : Below w.heap.size w W0 := by rw [← hW0]; exact ((Below.refl _ w).alloc (Nat.le_refl _) _).alloc (by simp) _
  have y : Rd W0 A n c l := h.below hB0
  have y' : Rd W0 A' n' c' l' := h'.below hB0
  have big := great_v (IS.two y ht (Nat.le_trans h.le h.cap) y' ht' (Nat.le_trans h'.le h'.cap) (s := s) (s' := s') 25) (Nat.le_refl _) (by simp)
  obtain ⟨g, hg⟩ : ∃ g, greatI [(s, l), (s', l')] = g := ⟨_, rfl⟩
  rw [hg] at big
  have hsz : W0.heap.size = w.heap.size + 1 + 1 := by rw [← hW0]; simp
  rw [hsz] at big
  obtain ⟨⟨a1, a2⟩, _, _⟩ := x0.facts2
  obtain ⟨⟨a3, a4⟩, _, _⟩ := x1.facts2
  have b1 : Below W0.heap.size W0 (W0.alloc (.cells #[.bool s, .slice A n c, .bool s', .slice A' n' c'] 25)) := (Below.refl _ _).alloc (Nat.le_refl _) _
  cases g
  case true =>
    clear hg
    go_enter Try.func3, Try.ntmps3
    go_wp2_with (first | (go_at_call 8; refine big.mono ?_; rintro e w1 ⟨rfl, rfl⟩) | (go_at_call 9; refine (wakes_any _).mono ?_; rintro e w2 ⟨rfl, b2⟩))
    go_ret
    have t1 := hB0.trans (b1.mono hB0.size)
    exact ⟨rfl, t1.trans (b2.mono t1.size)⟩
  case false =>
    obtain ⟨m1, m2⟩ := great_two hg
    clear hg
    simp only at m1 m2
    rw [h.len] at m1; rw [h'.len] at m2
    obtain ⟨W1, hW1⟩ : ∃ W1, W0.alloc (.cells #[.bool s, .slice A n c, .bool s', .slice A' n' c'] 25) = W1 := ⟨_, rfl⟩
    rw [hW1] at b1 big
    have y1 := y.below b1; have y1' := y'.below b1
    have hbk := fun (W : World) (hb : Below W0.heap.size W0 W) => And.intro (x0.kept hb).facts2.1 (x1.kept hb).facts2.1
    obtain ⟨⟨a1, a2⟩, a3, a4⟩ := hbk W1 b1
    have sgb := fun (W : World) (hb : Below W0.heap.size W0 W) => r5sign_any s' A' n' c' l' W (y'.below hb) ht' (by omega)
    rcases (by omega : iv s' l' = 0 ∨ iv s' l' ≠ 0) with hz | hz
    · have hdz := sdiv_zero s A n c l s' A' n' c' l' W1 _ _ y1 ht y1' ht' 60 m1 m2 (by omega) rfl rfl hz
      rw [hz] at sgb
      have hsm := fun (W : World) => lawsmall_any 0 none 0 0 [] 0 W (Rd.nil_ W) Is.nil false rfl (by omega) (by omega)
      have e0 : decide ((0 : Int) = 0) = true := rfl
      have e1 : (0 : Int).sign = 0 := rfl
      rw [e0] at hsm
      rw [e1] at sgb
      clear hz e0 e1
      go_enter Try.func3, Try.ntmps3
      go_wp2_with (first | (go_at_call 8; refine big.mono ?_; rintro e w1 ⟨rfl, rfl⟩) | (go_at_call 10; refine hdz.mono ?_; rintro e wd ⟨rfl, hbd⟩; have X1 := (BoxN.new wd 25 #[.bool false, .slice none 0 0]).alloc (.cells #[.bool false, .slice none 0 0] 25); have X2 := BoxN.at_ (wd.alloc (.cells #[.bool false, .slice none 0 0] 25)) 25 #[.bool false, .slice none 0 0] (b := wd.heap.size + 1) (by simp); have B1 := b1.trans (hbd.mono b1.size); have B2 := (B1.alloc B1.size (.cells #[.bool false, .slice none 0 0] 25)).alloc (le_alloc B1.size _) (.cells #[.bool false, .slice none 0 0] 25); obtain ⟨⟨a1, a2⟩, a3, a4⟩ := hbk _ B2) | (go_at_call 11; refine (sgb _ B2).mono ?_; rintro e w3 ⟨rfl, b3⟩; obtain ⟨⟨y1, y2⟩, _, _⟩ := (X1.kept b3).facts2; obtain ⟨⟨y3, y4⟩, _, _⟩ := (X2.kept b3).facts2) | (go_at_call 12; first | ((with_reducible refine (hsm w3).mono ?_); rintro e w4 ⟨rfl, b4⟩; have B4 := b3.trans (b4.mono b3.size); obtain ⟨⟨y1, y2⟩, _, _⟩ := (X1.kept B4).facts2; obtain ⟨⟨y3, y4⟩, _, _⟩ := (X2.kept B4).facts2) | ((with_reducible refine (hsm w4).mono ?_); rintro e w5 ⟨rfl, b5⟩)) | (go_at_call 9; refine (wakes_any _).mono ?_; rintro e w6 ⟨rfl, b6⟩))
      go_ret
      have t1 := B2.trans (B4.mono B2.size)
      have t2 := t1.trans (b5.mono t1.size)
      have t3 := t2.trans (b6.mono t2.size)
      exact ⟨rfl, hB0.trans (t3.mono hB0.size)⟩
    · have hdv := sdiv_any s A n c l s' A' n' c' l' W1 _ _ y1 ht y1' ht' 60 m1 m2 (by omega) rfl rfl hz (qdiv_all _ _ (Int.natAbs_pos.2 hz))
      have hab := iv_bound (s := s) ht h.len m1
      have hbb := iv_bound (s := s') ht' h'.len m2
      have hnb : val l' = (iv s' l').natAbs := (iv_abs s' l').symm
      have nrm := fun (W : World) (hb : Below W0.heap.size W0 W) => r5norm_v (UV.mk (s := s) (y.below hb) ht m1) (by omega)
      obtain ⟨va, hva⟩ : ∃ x, iv s l = x := ⟨_, rfl⟩
      obtain ⟨vb, hvb⟩ : ∃ x, iv s' l' = x := ⟨_, rfl⟩
      rw [hva] at hdv hab nrm
      rw [hvb] at hdv hbb hnb sgb hz
      have HVB := hid hvb
      clear hva hvb
      obtain ⟨sb, hsb⟩ : ∃ x, vb.sign = x := ⟨_, rfl⟩
      have hsb0 : (sb == 0) = false := by
        rw [← hsb]
        simp only [beq_eq_false_iff_ne, ne_eq, Int.sign_eq_zero_iff_zero]
        exact hz
      rw [hsb] at sgb
      have HSB := hid hsb
      have HNB := hid hnb
      clear hsb hz hnb
      go_enter Try.func3, Try.ntmps3
      go_wp2_with (first | (go_at_call 8; refine big.mono ?_; rintro e w1 ⟨rfl, rfl⟩) | (go_at_call 10; refine hdv.mono ?_; rintro e wd ⟨q, r, A1, n1, c1, l1, A2, n2, c2, l2, rfl, hq, hfr, hi1, hr1, hi2, hr2, hbd⟩; have HQ := hid hq; clear hq; have X1 := (BoxN.new wd 25 #[.bool (decide (q < 0)), .slice A1 n1 c1]).alloc (.cells #[.bool (decide (r < 0)), .slice A2 n2 c2] 25); have X2 := BoxN.at_ (wd.alloc (.cells #[.bool (decide (q < 0)), .slice A1 n1 c1] 25)) 25 #[.bool (decide (r < 0)), .slice A2 n2 c2] (b := wd.heap.size + 1) (by simp); have B1 := b1.trans (hbd.mono b1.size); have BD := ((Below.refl _ wd).alloc (Nat.le_refl _) (.cells #[.bool (decide (q < 0)), .slice A1 n1 c1] 25)).alloc (le_alloc (Nat.le_refl _) _) (.cells #[.bool (decide (r < 0)), .slice A2 n2 c2] 25); have B2 := B1.trans (BD.mono B1.size); obtain ⟨⟨a1, a2⟩, a3, a4⟩ := hbk _ B2) | (go_at_call 11; refine (sgb _ B2).mono ?_; rintro e w3 ⟨rfl, b3⟩))
      have B3 := B2.trans (b3.mono B2.size)
      have BD3 := BD.trans (b3.mono BD.size)
      obtain ⟨z1, z2, z3, z4, z5⟩ := floor_sizes HQ.out hfr hab hbb
      have cf : ∀ W, Below w3.heap.size w3 W → ((W.cell? ⟨w.heap.size, 0, none⟩ = some (.bool s) ∧ W.cell? ⟨w.heap.size, 1, none⟩ = some (.slice A n c)) ∧ W.cell? ⟨w.heap.size + 1, 0, none⟩ = some (.bool s') ∧ W.cell? ⟨w.heap.size + 1, 1, none⟩ = some (.slice A' n' c')) ∧ (W.cell? ⟨wd.heap.size, 0, none⟩ = some (.bool (decide (q < 0))) ∧ W.cell? ⟨wd.heap.size, 1, none⟩ = some (.slice A1 n1 c1)) ∧ W.cell? ⟨wd.heap.size + 1, 0, none⟩ = some (.bool (decide (r < 0))) ∧ W.cell? ⟨wd.heap.size + 1, 1, none⟩ = some (.slice A2 n2 c2) := fun W hb => ⟨hbk W (B3.trans (hb.mono B3.size)), (X1.kept (b3.trans (hb.mono b3.size))).facts2.1, (X2.kept (b3.trans (hb.mono b3.size))).facts2.1⟩
      have hn1 : n1 ≤ 61 := by rw [← hr1.len]; exact hi1.len z1
      have hn2 : n2 ≤ 61 := by rw [← hr2.len]; exact hi2.len z2
      refine (wpIn_wide (n := 0)).1 ?_
      refine wpIn_region_C 100 (fun W => ((W.cell? ⟨w.heap.size, 0, none⟩ = some (.bool s) ∧ W.cell? ⟨w.heap.size, 1, none⟩ = some (.slice A n c)) ∧ W.cell? ⟨w.heap.size + 1, 0, none⟩ = some (.bool s') ∧ W.cell? ⟨w.heap.size + 1, 1, none⟩ = some (.slice A' n' c')) ∧ (W.cell? ⟨wd.heap.size, 0, none⟩ = some (.bool (decide (q < 0))) ∧ W.cell? ⟨wd.heap.size, 1, none⟩ = some (.slice A1 n1 c1)) ∧ W.cell? ⟨wd.heap.size + 1, 0, none⟩ = some (.bool (decide (r < 0))) ∧ W.cell? ⟨wd.heap.size + 1, 1, none⟩ = some (.slice A2 n2 c2)) hmix ?_
      have b4 : Below w3.heap.size w3 w3.drew := (Below.refl _ w3).drew
      have c4 := cf _ b4
      refine takeC (i := 0) (v := ?vv1) (by kernel_rfl) (by kernel_rfl) rfl (by kernel_rfl) (by kernel_rfl) (by kernel_rfl) (fun _ _ _ h => h) c4 ⟨.inl ⟨rfl, ?yy1⟩, fun _ => rfl⟩ ?_
      case yy1 =>
        rintro wx ⟨⟨⟨q1, q2⟩, q3, q4⟩, ⟨q5, q6⟩, q7, q8⟩
        go_simp
        first | done | rfl
      refine takeC (i := 1) (v := ?vv2) (by kernel_rfl) (by kernel_rfl) rfl (by kernel_rfl) (by kernel_rfl) (by kernel_rfl) (fun _ _ _ h => h) c4 ⟨.inl ⟨rfl, ?yy2⟩, fun _ => rfl⟩ ?_
      case yy2 =>
        rintro wx ⟨⟨⟨q1, q2⟩, q3, q4⟩, ⟨q5, q6⟩, q7, q8⟩
        go_simp
        first | done | rfl
      refine takeC (i := 2) (v := ?vv3) (by kernel_rfl) (by kernel_rfl) rfl (by kernel_rfl) (by kernel_rfl) (by kernel_rfl) (fun _ _ _ h => h) c4 ⟨.inl ⟨rfl, ?yy3⟩, fun _ => rfl⟩ ?_
      case yy3 =>
        rintro wx ⟨⟨⟨q1, q2⟩, q3, q4⟩, ⟨q5, q6⟩, q7, q8⟩
        go_simp
        first | done | rfl
      refine takeC (i := 3) (v := ?vv4) (by kernel_rfl) (by kernel_rfl) rfl (by kernel_rfl) (by kernel_rfl) (by kernel_rfl) (fun _ _ _ h => h) c4 ⟨.inl ⟨rfl, ?yy4⟩, fun _ => rfl⟩ ?_
      case yy4 =>
        rintro wx ⟨⟨⟨q1, q2⟩, q3, q4⟩, ⟨q5, q6⟩, q7, q8⟩
        go_simp
        first | done | rfl
      refine takeC (i := 4) (v := ?vv5) (by kernel_rfl) (by kernel_rfl) rfl (by kernel_rfl) (by kernel_rfl) (by kernel_rfl) (fun _ _ _ h => h) c4 ⟨.inl ⟨rfl, ?yy5⟩, fun _ => rfl⟩ ?_
      case yy5 =>
        rintro wx ⟨⟨⟨q1, q2⟩, q3, q4⟩, ⟨q5, q6⟩, q7, q8⟩
        go_simp
        first | done | rfl
      refine takeC (i := 7) (v := ?vv6) (by kernel_rfl) (by kernel_rfl) rfl (by kernel_rfl) (by kernel_rfl) (by kernel_rfl) (fun _ _ _ h => h) c4 ⟨.inl ⟨rfl, ?yy6⟩, fun _ => rfl⟩ ?_
      case yy6 =>
        rintro wx ⟨⟨⟨q1, q2⟩, q3, q4⟩, ⟨q5, q6⟩, q7, q8⟩
        go_simp
        first | done | rfl
      refine takeC (i := 10) (v := ?vv7) (by kernel_rfl) (by kernel_rfl) rfl (by kernel_rfl) (by kernel_rfl) (by kernel_rfl) (fun _ _ _ h => h) c4 ⟨.inl ⟨rfl, ?yy7⟩, fun _ => rfl⟩ ?_
      case yy7 =>
        rintro wx ⟨⟨⟨q1, q2⟩, q3, q4⟩, ⟨q5, q6⟩, q7, q8⟩
        go_simp
        first | done | rfl
      have hu1 : Rd w3 A1 n1 c1 l1 := hr1.below BD3
      have hu2 : Rd w3 A' n' c' l' := y'.below B3
      have s5 := IS.two (hu1.drew) hi1.lt hn1 (hu2.drew) ht' (Nat.le_trans m2 (by omega)) (s := decide (q < 0)) (s' := s') 25
      have b5 := b4.alloc b4.size (.cells #[.bool (decide (q < 0)), .slice A1 n1 c1, .bool s', .slice A' n' c'] 25)
      refine oneC (i := 5) (by kernel_rfl) rfl (fun K hK => ?_)
      go_simp
      refine hK _ _ (.inr (cf _ b5)) ?_
      clear hK K
      have k6 := r5mul_v 61 s5 (by simp) (Nat.le_refl _) (by omega) (prod_two_bound (by omega) (by rw [iv_norm hi1]; exact z1) (by rw [iv_norm hi1, HVB.out]; exact z3))
      have p6 : iprod [(decide (q < 0), l1), (s', l')] [(decide (q < 0), l1), (s', l')].length = q * vb := by
        show 1 * iv (decide (q < 0)) l1 * iv s' l' = _
        rw [Int.one_mul, iv_norm hi1, HVB.out]
      rw [p6] at k6
      clear p6
      obtain ⟨vq, hvq⟩ : ∃ x, q * vb = x := ⟨_, rfl⟩
      rw [hvq] at k6 z3
      have hqs : vq + r = va := by rw [← hvq]; exact HQ.out.symm
      have HQS := hid hqs
      clear hvq hqs
      refine oneC (i := 6) (by kernel_rfl) rfl (fun K hK => ?_)
      go_simp
      refine CallsIn.mono (callsIn_wide.2 k6) ?_
      rintro e w6 ⟨v6, rfl, ⟨A6, n6, c6, l6, rfl, hi6, hr6⟩, hb6⟩
      have b6 := b5.trans (hb6.mono b5.size)
      refine hK _ _ (.inr (cf _ b6)) ?_
      clear hK K
      have hn6 : n6 ≤ 61 := by rw [← hr6.len]; exact hi6.len z3
      have hu3 : Rd w6 A2 n2 c2 l2 := (hr2.below BD3).below b6
      have s8 := IS.two hr6 hi6.lt hn6 hu3 hi2.lt hn2 (s := decide (vq < 0)) (s' := decide (r < 0)) 25
      have b8 := b6.alloc b6.size (.cells #[.bool (decide (vq < 0)), .slice A6 n6 c6, .bool (decide (r < 0)), .slice A2 n2 c2] 25)
      refine oneC (i := 8) (by kernel_rfl) rfl (fun K hK => ?_)
      go_simp
      refine hK _ _ (.inr (cf _ b8)) ?_
      clear hK K
      have hva61 : va.natAbs < BB ^ 61 := Nat.lt_trans hab (Nat.pow_lt_pow_right (by unfold BB; omega) (by omega))
      have k9 := r5add_v 61 s8 (by simp) (Nat.le_refl _) (by omega) (sum_two_bound (by rw [iv_norm hi6]; exact z3) (by rw [iv_norm hi6, iv_norm hi2, HQS.out]; exact hva61))
      have p9 : isum [(decide (vq < 0), l6), (decide (r < 0), l2)] [(decide (vq < 0), l6), (decide (r < 0), l2)].length = va := by
        show 0 + iv (decide (vq < 0)) l6 + iv (decide (r < 0)) l2 = _
        rw [Int.zero_add, iv_norm hi6, iv_norm hi2, HQS.out]
      rw [p9] at k9
      clear p9
      refine oneC (i := 9) (by kernel_rfl) rfl (fun K hK => ?_)
      go_simp
      refine CallsIn.mono (callsIn_wide.2 k9) ?_
      rintro e w9 ⟨v9, rfl, hv9, hb9⟩
      have b9 := b8.trans (hb9.mono b8.size)
      refine hK _ _ (.inr (cf _ b9)) ?_
      clear hK K
      refine oneC (i := 11) (by kernel_rfl) rfl (fun K hK => ?_)
      go_simp
      refine CallsIn.mono (callsIn_wide.2 (nrm _ (B3.trans (b9.mono B3.size)))) ?_
      rintro e wb ⟨v11, rfl, hv11, hb11⟩
      have b11 := b9.trans (hb11.mono b9.size)
      refine hK _ _ (.inr (cf _ b11)) ?_
      clear hK K
      refine oneC (i := 12) (by kernel_rfl) rfl (fun K hK => ?_)
      go_simp
      refine CallsIn.mono (callsIn_wide.2 (lawsame_v (hv9.below hb11) hv11)) ?_
      rintro e wc ⟨rfl, hb12⟩
      have b12 := b11.trans (hb12.mono b11.size)
      have c12 := cf _ b12
      refine hK _ _ (.inr c12) ?_
      clear hK K
      refine oneC (i := 13) (by kernel_rfl) rfl (fun K hK => ?_)
      go_simp
      refine hK _ _ (.inr c12) ?_
      clear hK K
      refine oneC (i := 14) (by kernel_rfl) rfl (fun K hK => ?_)
      go_simp
      refine hK _ _ (.inr c12) ?_
      clear hK K
      refine doneP (by kernel_rfl) ?_
      have hur : Rd wc A2 n2 c2 l2 := (hr2.below BD3).below b12
      have sgr := r5sign_any (decide (r < 0)) A2 n2 c2 l2 wc hur hi2.lt (by omega)
      rw [iv_norm hi2] at sgr
      have B12 := B3.trans (b12.mono B3.size)
      have ubw := fun (W : World) (hb : Below wc.heap.size wc W) => rcmp_any A2 n2 c2 l2 A' n' c' l' W (hur.below hb) ((y'.below B12).below hb) hi2.lt ht'
      have hcl : cmpOf (val l2) (val l') = -1 := cmpOf_lt (by rw [hi2.val, HNB.out]; exact z4)
      rw [hcl] at ubw
      rw [HSB.out] at z5
      obtain ⟨⟨⟨q1, q2⟩, q3, q4⟩, ⟨q5, q6⟩, q7, q8⟩ := c12
      have cfw := fun (W : World) (hb : Below wc.heap.size wc W) => cf W (b12.trans (hb.mono b12.size))
      clear cf hcl hab hbb z1 z2 z3 z4 c4 nrm hbk
      rcases z5 with z5 | z5
      · rw [z5] at sgr
        go_wp2_with (first | (go_at_call 11; refine sgr.mono ?_; rintro e u1 ⟨rfl, e1⟩; obtain ⟨⟨⟨q1, q2⟩, q3, q4⟩, ⟨q5, q6⟩, q7, q8⟩ := cfw u1 e1) | (go_at_call 17; refine (ubw u1 e1).mono ?_; rintro e u2 ⟨rfl, hu⟩; rw [← hu]; clear hu u2) | (go_at_call 9; refine (wakes_any _).mono ?_; rintro e u3 ⟨rfl, e3⟩))
        go_ret
        have t1 := B12.trans (e1.mono B12.size)
        have t2 := t1.trans (e3.mono t1.size)
        exact ⟨rfl, hB0.trans (t2.mono hB0.size)⟩
      · rw [z5] at sgr
        go_wp2_with (first | (go_at_call 11; first | ((with_reducible refine sgr.mono ?_); rintro e u1 ⟨rfl, e1⟩; obtain ⟨⟨⟨q1, q2⟩, q3, q4⟩, ⟨q5, q6⟩, q7, q8⟩ := cfw u1 e1) | ((with_reducible refine (sgb u1 (B12.trans (e1.mono B12.size))).mono ?_); rintro e u2 ⟨rfl, e2⟩; have e4 := e1.trans (e2.mono e1.size); obtain ⟨⟨⟨q1, q2⟩, q3, q4⟩, ⟨q5, q6⟩, q7, q8⟩ := cfw u2 e4)) | (go_at_call 17; refine (ubw u2 e4).mono ?_; rintro e u4 ⟨rfl, hu⟩; rw [← hu]; clear hu u4) | (go_at_call 9; refine (wakes_any _).mono ?_; rintro e u3 ⟨rfl, e3⟩))
        go_ret
        have t1 := B12.trans (e4.mono B12.size)
        have t2 := t1.trans (e3.mono t1.size)
        exact ⟨rfl, hB0.trans (t2.mono hB0.size)⟩
end Go.Proofs.Wd
