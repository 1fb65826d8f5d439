/- The walk of straitlaw05.wakes. -/
import Derived.Test.YtghgemeclgpibaaLaw5A
import Derived.Test.YtghgemeclgpibaaSintG
import Derived.Test.YtghgemeclgpibaaSintH
namespace Go.Proofs.Wd
open Go.RowKit Lb
attribute [local go_sem] Oper.semAt_some wide_fn wide_depth

theorem of_lit (k : Int) (s : Bool) (m : Nat) (hk : -9223372036854775808 ≤ k) (hk2 : k ≤ 9223372036854775807) (hs : decide (k < 0) = s) (hm : k.natAbs = m) (w : World) :
    Calls Try.prog 27 #[.int .i64 k] w fun e w' => ∃ A n c l, e = .returned (.agg #[.bool s, .slice A n c]) ∧ Is l m ∧ Rd w' A n c l ∧ Below w.heap.size w w' := by
  subst hs
  subst hm
  exact sof2_any k hk hk2 w

theorem len_of_small {l : List Nat} {v n k : Nat} (hi : Is l v) (hl : l.length = n) (hv : v < BB ^ k) : n ≤ k := by
  rw [← hl]; exact hi.len hv

theorem div_lit (v v' q r : Int) (s s' sq sr : Bool) (a b mq mr : Nat) (hs : decide (v < 0) = s) (hs' : decide (v' < 0) = s') (ha : v.natAbs = a) (hb : v'.natAbs = b) (ha2 : a < BB) (hb2 : b < BB) (hb0 : 0 < b)
    (hu : ∀ q' r' : Int, v = q' * v' + r' → FloorRest r' v' → q' = q ∧ r' = r) (hsq : decide (q < 0) = sq) (hsr : decide (r < 0) = sr) (hmq : q.natAbs = mq) (hmr : r.natAbs = mr)
    (A : Option Addr) (n c : Nat) (l : List Nat) (A' : Option Addr) (n' c' : Nat) (l' : List Nat) (w : World) (h : Rd w A n c l) (hi : Is l a) (h' : Rd w A' n' c' l') (hi' : Is l' b) :
    Calls Try.prog 10 #[.agg #[.bool s, .slice A n c], .agg #[.bool s', .slice A' n' c']] w fun e w' => ∃ A1 n1 c1 l1 A2 n2 c2 l2, e = .returned (.tuple #[.agg #[.bool sq, .slice A1 n1 c1], .agg #[.bool sr, .slice A2 n2 c2], .int .i64 0]) ∧
      Is l1 mq ∧ Rd w' A1 n1 c1 l1 ∧ Is l2 mr ∧ Rd w' A2 n2 c2 l2 ∧ Below w.heap.size w w' := by
  subst hs; subst hs'; subst ha; subst hb; subst hsq; subst hsr; subst hmq; subst hmr
  have e1 := len_of_small (k := 1) hi h.len (by rwa [Nat.pow_one])
  have e2 := len_of_small (k := 1) hi' h'.len (by rwa [Nat.pow_one])
  refine (sdiv_any _ A n c l _ A' n' c' l' w v v' h hi.lt h' hi'.lt 1 e1 e2 (by omega) (iv_norm hi) (iv_norm hi') (by omega) (qdiv_small _ _ hb0 hb2)).mono ?_
  rintro e w' ⟨q', r', A1, n1, c1, l1, A2, n2, c2, l2, rfl, hq, hr, h1, h2, h3, h4, h5⟩
  obtain ⟨rfl, rfl⟩ := hu q' r' hq hr
  exact ⟨A1, n1, c1, l1, A2, n2, c2, l2, rfl, h1, h2, h3, h4, h5⟩

theorem small_lit (v : Int) (s : Bool) (m : Nat) (hs : decide (v < 0) = s) (hm : v.natAbs = m) (hk : -9223372036854775808 ≤ v) (hk2 : v ≤ 9223372036854775807) (A : Option Addr) (n c : Nat) (l : List Nat) (w : World) (h : Rd w A n c l) (hi : Is l m) :
    Calls Try.prog 12 #[.agg #[.bool s, .slice A n c], .int .i64 v] w fun e w' => e = .returned (.bool true) ∧ Below w.heap.size w w' := by
  subst hm
  have := lawsmall_any v A n c l v w h hi s hs hk hk2
  rwa [decide_eq_true (rfl : v = v)] at this

theorem len_lit {l : List Nat} {v : Nat} {w : World} {A : Option Addr} {n c : Nat} (hi : Is l v) (hr : Rd w A n c l) (hv : v < BB) : n ≤ 1099511627776 :=
  Nat.le_trans (len_of_small (k := 1) hi hr.len (by rwa [Nat.pow_one])) (by omega)

theorem smalls_lit (v : Int) (s : Bool) (m : Nat) (hs : decide (v < 0) = s) (hm : v.natAbs = m) (hk : -9223372036854775808 ≤ v ∧ v ≤ 9223372036854775807) (A : Option Addr) (n c : Nat) (l : List Nat) (w : World) (h : Rd w A n c l) (hi : Is l m) :
    Calls Try.prog 26 #[.agg #[.bool s, .slice A n c]] w fun e w' => e = .returned (.tuple #[.int .i64 v, .bool true]) ∧ Below w.heap.size w w' := by
  subst hm
  have e1 := len_of_small (k := 2) hi h.len (by unfold BB; omega)
  have := ssmall_any s A n c l w v h hi.lt (by omega) (by subst hs; exact iv_norm hi)
  rwa [show smI v = v from if_pos (okI_true hk), okI_true hk] at this

theorem add_lit (v v' : Int) (s s' sr : Bool) (m m' mr : Nat) (hs : decide (v < 0) = s) (hs' : decide (v' < 0) = s') (hm : v.natAbs = m) (hm' : v'.natAbs = m') (h1 : m < BB) (h2 : m' < BB) (hsr : decide (v + v' < 0) = sr) (hmr : (v + v').natAbs = mr)
    (_A : Option Addr) (_n _c : Nat) (l : List Nat) (_A' : Option Addr) (_n' _c' : Nat) (l' : List Nat) (w : World) {B : Option Addr} (h : IRd w B 2 [(s, l), (s', l')]) (hi : Is l m) (hi' : Is l' m') :
    Calls Try.prog 20 #[.slice B 2 2] w fun e w' => ∃ A n c l, e = .returned (.agg #[.bool sr, .slice A n c]) ∧ Is l mr ∧ Rd w' A n c l ∧ Below w.heap.size w w' := by
  subst hs; subst hs'; subst hm; subst hm'; subst hsr; subst hmr
  have b1 : (iv (decide (v < 0)) l).natAbs < BB ^ 1 := by rw [iv_norm hi, Nat.pow_one]; exact h1
  have b2 : (iv (decide (v' < 0)) l').natAbs < BB ^ 1 := by rw [iv_norm hi', Nat.pow_one]; exact h2
  have := sadd_any B 2 2 _ 1 w h (by omega) (by omega) (by omega) (ivAt_two (decide (v < 0), l) (decide (v' < 0), l') 1 b1 b2)
  have hsum : isum [(decide (v < 0), l), (decide (v' < 0), l')] 2 = v + v' := by
    show (0 + iv (decide (v < 0)) l) + iv (decide (v' < 0)) l' = _
    rw [iv_norm hi, iv_norm hi']
    omega
  rw [hsum] at this
  exact this

set_option maxRecDepth 100000 in
set_option maxHeartbeats 2000000 in
theorem wakes_any (w : World) : Calls Try.prog 9 #[] w fun e w' => e = .returned (.bool true) ∧ Below w.heap.size w w' := by
  have o1 := of_lit (-7) true 7 (by omega) (by omega) rfl rfl
  have o2 := of_lit 2 false 2 (by omega) (by omega) rfl rfl
  have o3 := of_lit 7 false 7 (by omega) (by omega) rfl rfl
  have o4 := of_lit (-2) true 2 (by omega) (by omega) rfl rfl
  have o5 := of_lit (-9223372036854775808) true 9223372036854775808 (by omega) (by omega) rfl rfl
  have o6 := of_lit 5 false 5 (by omega) (by omega) rfl rfl
  have o7 := of_lit (-8) true 8 (by omega) (by omega) rfl rfl
  have v1 := div_lit (-7) 2 (-4) 1 true false true false 7 2 4 1 rfl rfl rfl rfl (by decide) (by decide) (by decide) (fun q r h1 h2 => by unfold FloorRest at h2; omega) rfl rfl rfl rfl
  have v2 := div_lit 7 (-2) (-4) (-1) false true true true 7 2 4 1 rfl rfl rfl rfl (by decide) (by decide) (by decide) (fun q r h1 h2 => by unfold FloorRest at h2; omega) rfl rfl rfl rfl
  have s1 := small_lit (-4) true 4 rfl rfl (by omega) (by omega)
  have s2 := small_lit 1 false 1 rfl rfl (by omega) (by omega)
  have s3 := small_lit (-1) true 1 rfl rfl (by omega) (by omega)
  have s4 := small_lit (-3) true 3 rfl rfl (by omega) (by omega)
  have v3 := smalls_lit (-9223372036854775808) true 9223372036854775808 rfl rfl (by omega)
  have v4 := add_lit 5 (-8) false true true 5 8 3 rfl rfl rfl rfl (by decide) (by decide) rfl rfl
  have v5 := fun w => ssign_any true none 0 0 [] w (Rd.nil_ w) Lt_nil (by omega)
  have e5 : (iv true []).sign = 0 := rfl
  simp only [e5] at v5
  go_enter Try.func9, Try.ntmps9
  go_wp2_with (first | (go_at_call 27; first | ((with_reducible refine (o1 _).mono ?_); rintro e w1 ⟨A1, n1, c1, l1, rfl, hi1, hr1, hb1⟩) | ((with_reducible refine (o2 _).mono ?_); rintro e w2 ⟨A2, n2, c2, l2, rfl, hi2, hr2, hb2⟩) | ((with_reducible refine (o3 _).mono ?_); rintro e w3 ⟨A3, n3, c3, l3, rfl, hi3, hr3, hb3⟩; have x1 := (BoxN.new d1 25 #[.bool true, .slice P1 pn1 pc1]).alloc (.cells #[.bool false, .slice Q1 qn1 qc1] 25); have x2 := BoxN.at_ (d1.alloc (.cells #[.bool true, .slice P1 pn1 pc1] 25)) 25 #[.bool false, .slice Q1 qn1 qc1] (b := d1.heap.size + 1) (by simp); have p1 := (pr1.alloc (.cells #[.bool true, .slice P1 pn1 pc1] 25)).alloc (.cells #[.bool false, .slice Q1 qn1 qc1] 25); have q1 := (qr1.alloc (.cells #[.bool true, .slice P1 pn1 pc1] 25)).alloc (.cells #[.bool false, .slice Q1 qn1 qc1] 25)) | ((with_reducible refine (o4 _).mono ?_); rintro e w4 ⟨A4, n4, c4, l4, rfl, hi4, hr4, hb4⟩; have K4 := hb3.trans (hb4.mono hb3.size)) | ((with_reducible refine (o5 _).mono ?_); rintro e w5 ⟨A5, n5, c5, l5, rfl, hi5, hr5, hb5⟩; have K6 := ((K5.alloc K5.size (.cells #[.bool true, .slice P2 pn2 pc2] 25)).alloc (le_alloc K5.size _) (.cells #[.bool true, .slice Q2 qn2 qc2] 25)).trans (hb5.mono (le_alloc (le_alloc K5.size _) _)); have x3 := (BoxN.new d2 25 #[.bool true, .slice P2 pn2 pc2]).alloc (.cells #[.bool true, .slice Q2 qn2 qc2] 25); have x4 := BoxN.at_ (d2.alloc (.cells #[.bool true, .slice P2 pn2 pc2] 25)) 25 #[.bool true, .slice Q2 qn2 qc2] (b := d2.heap.size + 1) (by simp); have p2 := (pr2.alloc (.cells #[.bool true, .slice P2 pn2 pc2] 25)).alloc (.cells #[.bool true, .slice Q2 qn2 qc2] 25); have q2 := (qr2.alloc (.cells #[.bool true, .slice P2 pn2 pc2] 25)).alloc (.cells #[.bool true, .slice Q2 qn2 qc2] 25)) | ((with_reducible refine (o6 _).mono ?_); rintro e w6 ⟨A6, n6, c6, l6, rfl, hi6, hr6, hb6⟩) | ((with_reducible refine (o7 _).mono ?_); rintro e w7 ⟨A7, n7, c7, l7, rfl, hi7, hr7, hb7⟩; have z1 : IRd _ _ _ _ := IRd.two (s := false) (s' := true) (hr6.below hb7) hi6.lt (len_lit hi6 hr6 (by decide)) hr7 hi7.lt (len_lit hi7 hr7 (by decide)) 25; have z2 := (Below.refl _ w7).alloc (Nat.le_refl _) (.cells #[.bool false, .slice A6 n6 c6, .bool true, .slice A7 n7 c7] 25))) | (go_at_call 10; first | ((with_reducible refine (v1 A1 n1 c1 l1 A2 n2 c2 l2 _ (hr1.below hb2) hi1 hr2 hi2).mono ?_); rintro e d1 ⟨P1, pn1, pc1, pl1, Q1, qn1, qc1, ql1, rfl, pi1, pr1, qi1, qr1, db1⟩; have K0 := (hb1.trans (hb2.mono hb1.size)).trans (db1.mono (hb1.trans (hb2.mono hb1.size)).size)) | ((with_reducible refine (v2 A3 n3 c3 l3 A4 n4 c4 l4 _ (hr3.below hb4) hi3 hr4 hi4).mono ?_); rintro e d2 ⟨P2, pn2, pc2, pl2, Q2, qn2, qc2, ql2, rfl, pi2, pr2, qi2, qr2, db2⟩; have K5 := K4.trans (db2.mono K4.size))) | (go_at_call 26; (with_reducible refine (v3 A5 n5 c5 l5 _ hr5 hi5).mono ?_); rintro e w8 ⟨rfl, b8⟩; have K8 := K6.trans (b8.mono K6.size); have L8 := hb5.trans (b8.mono hb5.size); obtain ⟨⟨y1, y2⟩, _, _⟩ := (x1.kept K8).facts2; obtain ⟨⟨y3, y4⟩, _, _⟩ := (x2.kept K8).facts2; obtain ⟨⟨y5, y6⟩, _, _⟩ := (x3.kept L8).facts2; obtain ⟨⟨y7, y8⟩, _, _⟩ := (x4.kept L8).facts2) | (go_at_call 12; first | ((with_reducible refine (s1 P1 pn1 pc1 pl1 _ (p1.below K8) pi1).mono ?_); rintro e w9 ⟨rfl, b9⟩; have K9 := K8.trans (b9.mono K8.size); have L9 := L8.trans (b9.mono L8.size); obtain ⟨⟨y1, y2⟩, _, _⟩ := (x1.kept K9).facts2; obtain ⟨⟨y3, y4⟩, _, _⟩ := (x2.kept K9).facts2; obtain ⟨⟨y5, y6⟩, _, _⟩ := (x3.kept L9).facts2; obtain ⟨⟨y7, y8⟩, _, _⟩ := (x4.kept L9).facts2) | ((with_reducible refine (s2 Q1 qn1 qc1 ql1 _ (q1.below K9) qi1).mono ?_); rintro e w10 ⟨rfl, b10⟩; have K10 := K9.trans (b10.mono K9.size); have L10 := L9.trans (b10.mono L9.size); obtain ⟨⟨y1, y2⟩, _, _⟩ := (x1.kept K10).facts2; obtain ⟨⟨y3, y4⟩, _, _⟩ := (x2.kept K10).facts2; obtain ⟨⟨y5, y6⟩, _, _⟩ := (x3.kept L10).facts2; obtain ⟨⟨y7, y8⟩, _, _⟩ := (x4.kept L10).facts2) | ((with_reducible refine (s1 P2 pn2 pc2 pl2 _ (p2.below L10) pi2).mono ?_); rintro e w11 ⟨rfl, b11⟩; have K11 := K10.trans (b11.mono K10.size); have L11 := L10.trans (b11.mono L10.size); obtain ⟨⟨y1, y2⟩, _, _⟩ := (x1.kept K11).facts2; obtain ⟨⟨y3, y4⟩, _, _⟩ := (x2.kept K11).facts2; obtain ⟨⟨y5, y6⟩, _, _⟩ := (x3.kept L11).facts2; obtain ⟨⟨y7, y8⟩, _, _⟩ := (x4.kept L11).facts2) | ((with_reducible refine (s3 Q2 qn2 qc2 ql2 _ (q2.below L11) qi2).mono ?_); rintro e w12 ⟨rfl, b12⟩; have K12 := K11.trans (b12.mono K11.size); have L12 := L11.trans (b12.mono L11.size); obtain ⟨⟨y1, y2⟩, _, _⟩ := (x1.kept K12).facts2; obtain ⟨⟨y3, y4⟩, _, _⟩ := (x2.kept K12).facts2; obtain ⟨⟨y5, y6⟩, _, _⟩ := (x3.kept L12).facts2; obtain ⟨⟨y7, y8⟩, _, _⟩ := (x4.kept L12).facts2) | ((with_reducible refine (s4 A9 n9 c9 l9 _ hr9 hi9).mono ?_); rintro e w13 ⟨rfl, b13⟩)) | (go_at_call 20; (with_reducible refine (v4 A6 n6 c6 l6 A7 n7 c7 l7 _ z1 hi6 hi7).mono ?_); rintro e w9s ⟨A9, n9, c9, l9, rfl, hi9, hr9, b9s⟩) | (go_at_call 22; refine (v5 _).mono ?_; rintro e w14 ⟨rfl, b14⟩))
  go_ret
  refine ⟨rfl, ?_⟩
  have t1 := (K0.alloc K0.size (.cells #[.bool true, .slice P1 pn1 pc1] 25)).alloc (le_alloc K0.size _) (.cells #[.bool false, .slice Q1 qn1 qc1] 25)
  have t2 := t1.trans (K12.mono t1.size)
  have t3 := t2.trans (hb6.mono t2.size)
  have t4 := t3.trans (hb7.mono t3.size)
  have t5 := t4.trans (z2.mono t4.size)
  have t6 := t5.trans (b9s.mono t5.size)
  have t7 := t6.trans (b13.mono t6.size)
  exact t7.trans (b14.mono t7.size)
end Go.Proofs.Wd
