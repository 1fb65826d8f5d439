/- Natural numbers as values; the walks of gcd's Reduce, Lcm, Coprime; Th and what it needs. -/
import Derived.Test.YtghgemeclgpibaaGreatDoorMQB17
import Derived.Test.YtghgemeclgpibaaGreatDoorMQB10
import Derived.Test.YtghgemeclgpibaaGreatDoorMQB7
import Derived.Test.YtghgemeclgpibaaGreatDoorMQB18
import Derived.Test.YtghgemeclgpibaaGreatDoorMQB16
import Derived.Test.YtghgemeclgpibaaGreatDoorMQB1
import Derived.Test.YtghgemeclgpibaaGreatDoorMQB9
import Derived.Test.YtghgemeclgpibaaGreatDoorMQB15
namespace Go.Proofs.Wd
open Go.RowKit Lb

theorem gcd_v {W : World} {m : Nat} {v v' : Value} {a b : Nat} (h : LV W m v a) (h' : LV W m v' b) (hm : m ≤ 1000) (hT : Tab W) : Calls Tryz.prog 112 #[v, v'] W (RetN W (Nat.gcd a b)) := by
  obtain ⟨A, n, c, l, rfl, h1, h2, h3, rfl⟩ := h
  obtain ⟨A', n', c', l', rfl, h1', h2', h3', rfl⟩ := h'
  exact (gcd_any A n c l A' n' c' l' W h1 h1' h2 h2' (by omega) (by omega) hT).mono fun _ _ => RetNat.v
theorem gcd_lt {a b m : Nat} (ha : a < BB ^ m) (hb : b < BB ^ m) : Nat.gcd a b < BB ^ m := by
  rcases Nat.eq_zero_or_pos a with rfl | h
  · rwa [Nat.gcd_zero_left]
  · exact Nat.lt_of_le_of_lt (Nat.gcd_le_left b h) ha

theorem by1_any {m : Nat} {v vg : Value} {a g B : Nat} {W : World} (h : LV W m v a) (hg : LV W m vg g) (hm : m ≤ 1000) (hg0 : 0 < g) (hc : W.cell? ⟨B, 0, none⟩ = some vg) :
    Calls Tryz.prog 130 #[v, .pointer (some ⟨B, 0, none⟩)] W (RetN W (a / g)) := by
  obtain ⟨A, n, c, l, rfl, h1, h2, h3, h4⟩ := h
  obtain ⟨A', n', c', l', rfl, h1', h2', h3', h4'⟩ := hg
  have hd := qdiv_all a g hg0 A n c l A' n' c' l' W h1 h2 h1' h2' h4 h4' (by omega) (by omega)
  have H4 := hid h4; have H4' := hid h4'
  clear h4 h4'
  go_enter Tryz.func130, Tryz.ntmps130
  go_wp2_with fail
  refine hd.mono ?_
  rintro e w4 ⟨A4, n4, c4, l4, A5, n5, c5, l5, rfl, hi4, hr4, hi5, hr5, hb5⟩
  go_wp2_with fail
  go_ret
  exact ⟨_, rfl, ⟨A4, n4, c4, l4, rfl, hi4, hr4⟩, hb5⟩

theorem by_any (A : Option Addr) (n c : Nat) (w : World) :
    Calls Tryz.prog 113 #[.slice A n c] w fun e w' => e = .returned (.func (.func 130) #[] #[.pointer (some ⟨w.heap.size, 0, none⟩)]) ∧ w' = w.alloc (.cells #[.slice A n c] 23) := by
  go_enter Tryz.func113, Tryz.ntmps113
  go_wp2
  go_ret
  exact ⟨rfl, rfl⟩

set_option maxHeartbeats 1000000 in
theorem reduce_v {W : World} {m : Nat} {v v' : Value} {a b : Nat} (h : LV W m v a) (h' : LV W m v' b) (hm : m ≤ 1000) (hT : Tab W) : Calls Tryz.prog 85 #[v, v'] W (RetN2 W (a / Nat.gcd a b) (b / Nat.gcd a b)) := by
  have hgc := gcd_v h h' hm hT
  have hgl := gcd_lt h.bound h'.bound
  have hen : ∀ args w, (callFunc 130 args).run Tryz.prog w = .ok (.enter 130 args) w := enters_of Tryz.func130 (by kernel_rfl) rfl
  obtain ⟨g, hg⟩ : ∃ g, Nat.gcd a b = g := ⟨_, rfl⟩
  rw [hg] at hgc hgl ⊢
  rcases Nat.eq_zero_or_pos g with h0 | h0
  · have HZ := hid h0
    go_enter Tryz.func85, Tryz.ntmps85
    go_wp2_with fail
    refine hgc.mono ?_
    rintro e w4 ⟨v4, rfl, ⟨A4, n4, c4, l4, rfl, hi4, hr4⟩, hb4⟩
    obtain rfl : n4 = 0 := by rw [← hr4.len]; exact hi4.zero_iff.1 HZ.out
    go_wp2_with fail
    go_ret2
    exact ⟨_, _, rfl, ⟨none, 0, 0, [], rfl, by rw [HZ.out, Nat.div_zero]; exact Is.nil, Rd.nil_ _⟩, ⟨none, 0, 0, [], rfl, by rw [HZ.out, Nat.div_zero]; exact Is.nil, Rd.nil_ _⟩, hb4⟩
  · clear hg
    go_enter Tryz.func85, Tryz.ntmps85
    go_wp2_with fail
    refine hgc.mono ?_
    rintro e w4 ⟨v4, rfl, ⟨A4, n4, c4, l4, rfl, hi4, hr4⟩, hb4⟩
    have hn4 : 0 < n4 := by rw [← hr4.len]; exact hi4.pos_iff.1 h0
    have hb5 := hb4.trans ((Below.refl _ w4).alloc (Nat.le_refl _) (.cells #[.slice A4 n4 c4] 23) |>.mono hb4.size)
    have x5 := Boxed.new w4 23 (.slice A4 n4 c4)
    obtain ⟨W5, hW5⟩ : ∃ W5, w4.alloc (.cells #[.slice A4 n4 c4] 23) = W5 := ⟨_, rfl⟩
    rw [hW5] at hb5 x5
    have hg5 : LV W5 m (.slice A4 n4 c4) g := by rw [← hW5]; exact (NatV.lv ⟨A4, n4, c4, l4, rfl, hi4, hr4⟩ hgl).below ((Below.refl _ w4).alloc (Nat.le_refl _) _)
    have hby := by_any A4 n4 c4 w4
    rw [hW5] at hby
    clear hW5
    go_wp2_with fail
    refine hby.mono ?_
    rintro e w6 ⟨rfl, rfl⟩
    go_wp2_with fail
    refine (by1_any (h.below hb5) hg5 hm h0 x5.cell).mono ?_
    rintro e w7 ⟨v7, rfl, hv7, hb7⟩
    go_wp2_with fail
    refine (by1_any ((h'.below hb5).below hb7) (hg5.below hb7) hm h0 ((hb7.cell (p := ⟨w4.heap.size, 0, none⟩) (lt_of_cell x5.cell)).trans x5.cell)).mono ?_
    rintro e w8 ⟨v8, rfl, hv8, hb8⟩
    go_wp2_with fail
    go_ret2
    have t1 := hb5.trans (hb7.mono hb5.size)
    exact ⟨_, _, rfl, hv7.below hb8, hv8, t1.trans (hb8.mono t1.size)⟩

end Go.Proofs.Wd


namespace Go.Proofs.Wd
open Go.RowKit Lb

theorem below_dn {W : World} (nq : Nat) : Below W.heap.size W (W.drewN nq) := ⟨(Below.refl W.heap.size W).os, (Below.refl W.heap.size W).tape, (Below.refl W.heap.size W).output, (Below.refl W.heap.size W).size, (Below.refl W.heap.size W).block⟩
end Go.Proofs.Wd


namespace Go.Proofs.Wd
open Go.RowKit Lb

end Go.Proofs.Wd


namespace Lb
theorem tz_val {l : List Nat} (ht : Lt l) {j s x : Nat} (hj : j < l.length) (hz : ∀ i, i < j → lm l i = 0) (hx : lm l j = 2 ^ s * x) (ho : x % 2 = 1) : TZ (val l) (32 * j + s) ∧ s < 32 := by
  have hb := lm_BB ht j
  have hs : s < 32 := by
    have h1 : 2 ^ s * 1 ≤ 2 ^ s * x := Nat.mul_le_mul_left _ (by omega)
    rw [Nat.mul_one, ← hx] at h1
    exact (Nat.pow_lt_pow_iff_right (by decide)).1 (Nat.lt_of_le_of_lt h1 (by rw [BB_eq] at hb; simpa using hb))
  refine ⟨?_, hs⟩
  have e0 : val (l.take j) = 0 := by
    rw [val_take (by omega)]
    have : sm (lm l) j = sm (lm l) 0 := sm_ext (Nat.zero_le _) fun i _ hi => hz i hi
    rw [this]; rfl
  have e1 := val_take_drop l j (by omega)
  rw [e0, Nat.zero_add, val_drop hj, hx, BB_pow] at e1
  obtain ⟨y, hy⟩ : ∃ y, val (l.drop (j + 1)) = y := ⟨_, rfl⟩
  rw [hy, show BB = 2 ^ s * (2 * 2 ^ (31 - s)) from by rw [← Nat.pow_succ', ← Nat.pow_add, show s + (31 - s + 1) = 32 from by omega]; rfl, Nat.mul_assoc, ← Nat.mul_add, ← Nat.mul_assoc, ← Nat.pow_add] at e1
  refine ⟨x / 2 + 2 ^ (31 - s) * y, ?_⟩
  rw [e1]
  congr 1
  rw [Nat.mul_add, ← Nat.mul_assoc]
  omega
end Lb
namespace Go.Proofs.Wd
open Go.RowKit Lb

set_option maxHeartbeats 1000000 in
theorem twos_any (A : Option Addr) (n c : Nat) (l : List Nat) (w : World) (h : Rd w A n c l) (ht : Lt l) (h0 : 0 < val l) (hn : n ≤ 1000) :
    ∃ q t : Nat, TZ (val l) (32 * q + t) ∧ t ≤ 31 ∧ q < n ∧ Calls Tryz.prog 87 #[.slice A n c] w fun e w' => e = .returned (.int .i64 ((32 * q + t : Nat) : Int)) ∧ w' = w := by
  obtain ⟨j, hjn, hjz, hj0⟩ : ∃ j, j < n ∧ (∀ i, i < j → lm l i = 0) ∧ lm l j ≠ 0 := by
    have hex : ∃ j, lm l j ≠ 0 := by
      refine Classical.byContradiction fun hc => ?_
      have hz : ∀ i, lm l i = 0 := fun i => Classical.byContradiction fun e => hc ⟨i, e⟩
      have : sm (lm l) l.length = sm (lm l) 0 := sm_ext (Nat.zero_le _) fun i _ _ => hz i
      have e : val l = sm (lm l) l.length := rfl
      rw [e, this] at h0
      simp [sm] at h0
    have hmin : ∀ k, (∃ j, j ≤ k ∧ lm l j ≠ 0) → ∃ j, (∀ i, i < j → lm l i = 0) ∧ lm l j ≠ 0 := by
      intro k
      induction k with
      | zero => rintro ⟨j, hj, e⟩; exact ⟨j, fun i hi => by omega, e⟩
      | succ k ih =>
        rintro ⟨j, hj, e⟩
        by_cases hk : ∃ j, j ≤ k ∧ lm l j ≠ 0
        · exact ih hk
        · exact ⟨j, fun i hi => Classical.byContradiction fun e' => hk ⟨i, by omega, e'⟩, e⟩
    obtain ⟨j0, hj0⟩ := hex
    obtain ⟨j, h1, h2⟩ := hmin j0 ⟨j0, Nat.le_refl _, hj0⟩
    refine ⟨j, ?_, h1, h2⟩
    rw [← h.len]
    exact Nat.lt_of_not_le fun e => h2 (lm_ge e)
  obtain ⟨s, hs⟩ := TZ.exists (lm l j) (by omega)
  obtain ⟨m, hm⟩ := hs
  obtain ⟨htz, hs32⟩ := tz_val ht (s := s) (x := 2 * m + 1) (by rw [h.len]; exact hjn) hjz hm (by omega)
  refine ⟨j, s, htz, by omega, hjn, ?_⟩
  have hb := lm_BB ht j
  have hle := h.le; have hcap := h.cap
  have HJZ := hid hjz; have HM := hid hm; have HB := hid hb
  obtain ⟨d, hd⟩ : ∃ d : Nat → Nat, d = fun i => 2 ^ (s - i) * (2 * m + 1) := ⟨_, rfl⟩
  have hd0 : d 0 = lm l j := by rw [hd, hm]; rfl
  have hds : d s % 2 = 1 := by rw [hd]; simp
  have hdi : ∀ i, i < s → d i % 2 = 0 ∧ d i / 2 = d (i + 1) := fun i hi => by
    rw [hd]
    show 2 ^ (s - i) * (2 * m + 1) % 2 = 0 ∧ 2 ^ (s - i) * (2 * m + 1) / 2 = 2 ^ (s - (i + 1)) * (2 * m + 1)
    rw [show s - i = (s - (i + 1)) + 1 from by omega, Nat.pow_succ', Nat.mul_assoc]
    omega
  have hdl : ∀ i, d i ≤ d 0 := fun i => by
    rw [hd]
    exact Nat.mul_le_mul_right _ (Nat.pow_le_pow_right (by omega) (by omega))
  have HD0 := hid hd0; have HDS := hid hds; have HDI := hid hdi; have HDL := hid hdl
  clear hd hd0 hds hdi hdl
  have HL : Hid (∀ i, lm l i < 4294967296) := hid fun i => lm_BB ht i
  clear hjz hm htz hb h0
  go_enter Tryz.func87, Tryz.ntmps87
  go_wp2
  go_loopw [3, 4] (fun t i wr => ∃ k : Nat, k ≤ j ∧ i = .int .i64 k ∧ t = .int .i64 ((32 * k : Nat) : Int) ∧ wr = w) (fun _ i _ => j - (intOf i).toNat)
  case atStart => exact ⟨0, Nat.zero_le _, rfl, rfl, rfl⟩
  case round =>
    obtain ⟨k, hk, rfl, rfl, rfl⟩ := hrel
    obtain ⟨b, o, rfl, hc⟩ := h.cells k (by omega)
    by_cases hkj : k < j
    · have hz := HJZ.out k hkj
      rw [hz] at hc
      clear hz
      go_wp2
      go_roundw
      case rel => exact ⟨k + 1, by omega, by go_num, by go_num, trivial⟩
      case measure => simp [intOf]; omega
    · obtain rfl : k = j := by omega
      have hlk := HL.out k
      obtain ⟨x, hx⟩ : ∃ x, lm l k = x := ⟨_, rfl⟩
      rw [hx] at hc hj0 hlk
      have HX := hid hx
      clear hx
      have e1 : ((32 * k : Nat) : Int).tdiv 32 = (k : Int) := by rw [Int.tdiv_eq_ediv_of_nonneg (by omega)]; omega
      have e2 : (((32 * k : Nat) : Int) / 32) = (k : Int) := by omega
      have hx2 : ((x : Int) == 0) = false := by simpa using hj0
      go_wp2
      go_loopw [3, 5] (fun t y wr2 => ∃ i : Nat, i ≤ s ∧ t = .int .i64 ((32 * k + i : Nat) : Int) ∧ y = .int .u32 (d i : Nat) ∧ wr2 = wr) (fun t _ _ => 32 * k + s - (intOf t).toNat)
      case atStart => exact ⟨0, Nat.zero_le _, rfl, by rw [HD0.out, HX.out], rfl⟩
      case round =>
        obtain ⟨i, hi, rfl, rfl, rfl⟩ := hrel
        have hdx := HDL.out i
        rw [HD0.out, HX.out] at hdx
        by_cases his : i < s
        · obtain ⟨q1, q2⟩ := HDI.out i his
          obtain ⟨y, hy⟩ : ∃ y, d i = y := ⟨_, rfl⟩
          rw [hy] at q1 q2 hdx ⊢
          have HY := hid q2
          clear q2 hy
          go_wp2
          go_roundw
          case rel => exact ⟨i + 1, by omega, by go_num, by rw [← HY.out]; go_num, trivial⟩
          case measure => simp [intOf]; omega
        · obtain rfl : i = s := by omega
          have q1 := HDS.out
          obtain ⟨y, hy⟩ : ∃ y, d i = y := ⟨_, rfl⟩
          rw [hy] at q1 hdx ⊢
          clear hy
          go_wp2
          go_ret
          exact ⟨rfl, rfl⟩
end Go.Proofs.Wd


namespace Go.Proofs.Wd
open Go.RowKit Lb

theorem rmul_v {W : World} {m : Nat} {v v' : Value} {a b : Nat} (h : LV W m v a) (h' : LV W m v' b) (hm : m ≤ 100000) : Calls Tryz.prog 56 #[v, v'] W (RetN W (a * b)) := by
  obtain ⟨A, n, c, l, rfl, h1, h2, h3, rfl⟩ := h
  obtain ⟨A', n', c', l', rfl, h1', h2', h3', rfl⟩ := h'
  exact (rmul_any A n c l A' n' c' l' W h1 h1' h2 h2' (by omega) (by omega)).mono fun _ _ => RetNat.v
theorem rtrim_v {W : World} {m : Nat} {v : Value} {a : Nat} (h : LV W m v a) (hm : m ≤ 100000) : Calls Tryz.prog 51 #[v] W (RetN W a) := by
  obtain ⟨A, n, c, l, rfl, h1, h2, h3, rfl⟩ := h
  exact (rtrim_any A n c l W h1 h2 (by omega)).mono fun _ _ => RetNat.v
theorem NatV.open {W : World} {v : Value} {x : Nat} (h : NatV W v x) : ∃ A n c, v = .slice A n c ∧ (x = 0 → n = 0) ∧ (0 < x → 0 < n) ∧ n ≤ c ∧ c ≤ 9223372036854775807 ∧ NatV W (.slice A n c) x := by
  obtain ⟨A, n, c, l, rfl, h1, h2⟩ := h
  have h3 := h1.zero_iff; have h4 := h1.pos_iff
  rw [h2.len] at h3 h4
  exact ⟨A, n, c, rfl, h3.1, h4.1, h2.le, h2.cap, ⟨A, n, c, l, rfl, h1, h2⟩⟩

end Go.Proofs.Wd


namespace Lb
theorem odd_of {x k : Nat} (h : TZ x k) : x / 2 ^ k % 2 = 1 ∧ x / 2 ^ k ≤ x ∧ 0 < x / 2 ^ k := by
  have := h.part.2
  exact ⟨this, Nat.div_le_self _ _, Nat.pos_of_ne_zero fun e => by rw [e] at this; simp at this⟩
def Bin (G x y : Nat) : Prop := 0 < y ∧ (x = 0 → y = G) ∧ ∀ i j, TZ x i → TZ y j → Nat.gcd (x / 2 ^ i) (y / 2 ^ j) = G
theorem Bin.start {a b i j : Nat} (hi : TZ a i) (hj : TZ b j) : Bin (Nat.gcd (a / 2 ^ i) (b / 2 ^ j)) a b :=
  ⟨hj.pos, fun e => by have := hi.pos; omega, fun i' j' h1 h2 => by rw [h1.unique hi, h2.unique hj]⟩
theorem Bin.turn {G x y : Nat} (hx : x % 2 = 1) (hy : y % 2 = 1) (hg : Nat.gcd x y = G) (hle : y ≤ x) : Bin G (x - y) y := by
  refine ⟨by omega, fun e => ?_, fun i j h1 h2 => ?_⟩
  · have : x = y := by omega
    rw [← hg, this, Nat.gcd_self]
  · have hj : j = 0 := h2.unique (TZ.odd hy)
    rw [hj, Nat.pow_zero, Nat.div_one, Nat.gcd_comm, TZ.gcd_odd hy h1, Nat.gcd_comm, gcd_less hle, hg]
end Lb
namespace Go.Proofs.Wd
open Go.RowKit Lb

theorem rdown_v {W : World} {m : Nat} {A : Option Addr} {n c : Nat} {x q t : Nat} (h : NatV W (.slice A n c) x) (hx : x < BB ^ m) (hm : m ≤ 1000) (htt : t ≤ 31) (hq : q < n) : Calls Tryz.prog 88 #[.slice A n c, .int .i64 ((32 * q + t : Nat) : Int)] W (RetN W (x / 2 ^ (32 * q + t))) := by
  obtain ⟨A1, n1, c1, l1, e1, h1, h2⟩ := h
  cases e1
  have hn : n ≤ m := is_len h1 h2 hx
  have := rdown_any A n c l1 q t W h2 h1.lt htt (by omega) (by omega) (by omega)
  rw [h1.val] at this
  exact this.mono fun _ _ => RetNat.v
theorem rup_v {W : World} {m : Nat} {A : Option Addr} {n c : Nat} {x q t : Nat} (h : LV W m (.slice A n c) x) (hm : m ≤ 1000) (htt : t ≤ 31) (hq : q ≤ 1000) : Calls Tryz.prog 13 #[.slice A n c, .int .i64 ((32 * q + t : Nat) : Int)] W (RetN W (x * 2 ^ (32 * q + t))) := by
  obtain ⟨A1, n1, c1, l1, e1, h1, h2, h3, rfl⟩ := h
  cases e1
  exact (rup_any A n c l1 q t W h1 h2 htt (by omega) (by omega)).mono fun _ _ => RetNat.v
def RetSb (w : World) (x : Nat) : Ending → World → Prop := fun e w' => ∃ v, e = .returned (.tuple #[v, .int .i64 0]) ∧ NatV w' v x ∧ Below w.heap.size w w'
theorem rsub_v {W : World} {m : Nat} {v v' : Value} {a b : Nat} (h : LV W m v a) (h' : LV W m v' b) (hm : m ≤ 1000) (hab : b ≤ a) : Calls Tryz.prog 90 #[v, v'] W (RetSb W (a - b)) := by
  obtain ⟨A, n, c, l, rfl, h1, h2, h3, rfl⟩ := h
  obtain ⟨A', n', c', l', rfl, h1', h2', h3', rfl⟩ := h'
  refine (rsub_any A n c l A' n' c' l' W h1 h1' h2 h2' hab (by omega)).mono ?_
  rintro e w' ⟨A1, n1, c1, l1, rfl, i1, r1, hb⟩
  exact ⟨_, rfl, ⟨A1, n1, c1, l1, rfl, i1, r1⟩, hb⟩
theorem twos_v {W : World} {m : Nat} {A : Option Addr} {n c : Nat} {x : Nat} (h : NatV W (.slice A n c) x) (hx : x < BB ^ m) (hm : m ≤ 1000) (h0 : 0 < x) :
    ∃ q t : Nat, TZ x (32 * q + t) ∧ t ≤ 31 ∧ q < n ∧ n ≤ m ∧ Calls Tryz.prog 87 #[.slice A n c] W fun e w' => e = .returned (.int .i64 ((32 * q + t : Nat) : Int)) ∧ w' = W := by
  obtain ⟨A1, n1, c1, l1, e1, h1, h2⟩ := h
  cases e1
  have hn : n ≤ m := is_len h1 h2 hx
  obtain ⟨q, t, k1, k2, k3, k4⟩ := twos_any A n c l1 W h2 h1.lt (by rw [h1.val]; exact h0) (by omega)
  rw [h1.val] at k1
  exact ⟨q, t, k1, k2, k3, hn, k4⟩
theorem NatV.rdv {W : World} {v : Value} {x : Nat} (h : NatV W v x) : rdv W v = x := by
  obtain ⟨A1, n1, c1, l1, rfl, h1, h2⟩ := h
  exact h2.rdv h1

def RgI (w : World) (m G : Nat) (u v : Value) (W : World) : Prop := ∃ A n c A' n' c' x y, u = .slice A n c ∧ v = .slice A' n' c' ∧ NatV W (.slice A n c) x ∧ NatV W (.slice A' n' c') y ∧ x < BB ^ m ∧ y < BB ^ m ∧ Bin G x y ∧ Below w.heap.size w W

set_option maxHeartbeats 2000000 in
theorem r4gcd_v {W : World} {m : Nat} {v v' : Value} {a b : Nat} (h : LV W m v a) (h' : LV W m v' b) (hm : m ≤ 1000) : Calls Tryz.prog 61 #[v, v'] W (RetN W (Nat.gcd a b)) := by
  have hla := h.bound; have hlb := h'.bound
  obtain ⟨A0, n0, c0, rfl, -, k1, k2, h⟩ := h.open
  obtain ⟨B0, m0, d0, rfl, -, k3, k4, h'⟩ := h'.open
  go_enter Tryz.func61, Tryz.ntmps61
  go_wp2_with fail
  refine (rtrim_v h (by omega)).mono ?_
  rintro e w1 ⟨va, rfl, ha, b1⟩
  obtain ⟨A, n, c, rfl, za, pa, ia, ja, ha⟩ := ha.open
  go_wp2_with fail
  refine (rtrim_v (h'.below b1) (by omega)).mono ?_
  rintro e w2 ⟨vb, rfl, hb, b2⟩
  obtain ⟨A', n', c', rfl, zb, pb, ib, jb, hb⟩ := hb.open
  have b02 := b1.trans (b2.mono b1.size)
  have ha2 := ha.below b2
  clear h h' ha b1 b2 k1 k2 k3 k4
  by_cases h0 : a = 0 ∨ b = 0
  · have hg : Nat.gcd a b = a + b := by
      rcases h0 with e | e
      · rw [e]; simp
      · rw [e]; simp
    have h00 : n = 0 ∨ (0 < n ∧ n' = 0) := by
      rcases Nat.eq_zero_or_pos n with e | e
      · exact .inl e
      · refine .inr ⟨e, zb (h0.resolve_left fun e' => ?_)⟩
        have := za e'; omega
    have HG := hid hg
    clear za pa zb pb h0 hg
    have ad := radd2_v (ha2.lv hla) (hb.lv hlb) (by omega) 23
    have bS : Below w2.heap.size w2 (w2.alloc (.cells #[.slice A n c, .slice A' n' c'] 23)) := (Below.refl _ w2).alloc (Nat.le_refl _) _
    have HLA := hid hla; have HLB := hid hlb
    clear hla hlb
    rcases h00 with rfl | ⟨e1, rfl⟩
    all_goals
      go_wp2_with fail
      refine ad.mono ?_
      rintro e w4 ⟨vs, rfl, hs, b4⟩
      go_wp2_with fail
      go_ret
      exact ⟨vs, rfl, by rw [HG.out]; exact hs, b02.trans ((bS.trans (b4.mono bS.size)).mono b02.size)⟩
  · have hn0 : 0 < n := pa (by omega)
    have hn0' : 0 < n' := pb (by omega)
    have hnb : ((n : Int) == 0) = false := by simp; omega
    have hnb' : ((n' : Int) == 0) = false := by simp; omega
    obtain ⟨q, t, hz, ht, hq, hnm, htw⟩ := twos_v ha2 hla hm (by omega)
    obtain ⟨q', t', hz', ht', hq', hnm', htw'⟩ := twos_v hb hlb hm (by omega)
    have hgcd := hz.gcd hz'
    have hbin := Bin.start hz hz'
    have hG0 : Nat.gcd (a / 2 ^ (32 * q + t)) (b / 2 ^ (32 * q' + t')) < BB ^ m := gcd_lt (Nat.lt_of_le_of_lt (Nat.div_le_self _ _) hla) (Nat.lt_of_le_of_lt (Nat.div_le_self _ _) hlb)
    obtain ⟨G, hG⟩ : ∃ G, Nat.gcd (a / 2 ^ (32 * q + t)) (b / 2 ^ (32 * q' + t')) = G := ⟨_, rfl⟩
    rw [hG] at hgcd hbin hG0
    obtain ⟨p, s, hs, hps, hpq⟩ : ∃ p s : Nat, s ≤ 31 ∧ p ≤ 1000 ∧ min (32 * q + t) (32 * q' + t') = 32 * p + s := by
      rcases Nat.le_total (32 * q + t) (32 * q' + t') with e | e
      · exact ⟨q, t, ht, by omega, by omega⟩
      · exact ⟨q', t', ht', by omega, by omega⟩
    rw [hpq] at hgcd
    have hmin : min (((32 * q + t : Nat) : Int)) (((32 * q' + t' : Nat) : Int)) = ((32 * p + s : Nat) : Int) := by omega
    have HGC := hid hgcd; have HBI := hid hbin; have HG0 := hid hG0
    obtain ⟨k, hk⟩ : ∃ k, 32 * q + t = k := ⟨_, rfl⟩
    obtain ⟨k', hk'⟩ : ∃ k, 32 * q' + t' = k := ⟨_, rfl⟩
    rw [hk] at htw hmin
    rw [hk'] at htw' hmin
    obtain ⟨K, hK⟩ : ∃ K, 32 * p + s = K := ⟨_, rfl⟩
    rw [hK] at hmin
    have HK := hid hK
    have hK2 : K ≤ 40000 := by omega
    have hk2 : k ≤ 40000 := by omega
    have hk2' : k' ≤ 40000 := by omega
    have HLA := hid hla; have HLB := hid hlb
    clear hgcd hbin hG0 hz hz' hG hpq hk hk' hK za pa zb pb hq hq' ht ht' hnm hnm' h0 hla hlb
    go_wp2_with fail
    refine htw.mono ?_
    rintro e w3 ⟨rfl, rfl⟩
    go_wp2_with fail
    refine htw'.mono ?_
    rintro e w3 ⟨rfl, rfl⟩
    go_wp2
    go_loopw [0, 1] (RgI W m G) (fun u v wr => rdv wr u + rdv wr v)
    case atStart => exact ⟨A, n, c, A', n', c', a, b, rfl, rfl, ha2, hb, HLA.out, HLB.out, HBI.out, b02⟩
    case round =>
      clear ha2 hb b02 hn0 hn0' hnb hnb' htw htw' ia ja ib jb hmin
      obtain ⟨A1, n1, c1, A2, n2, c2, x, y, rfl, rfl, hx, hy, hxl, hyl, hbn, hB⟩ := hrel
      obtain ⟨_, _, _, e1, zx, px, ix, jx, _⟩ := hx.open
      cases e1
      obtain ⟨_, _, _, e1, zy, py, iy, jy, _⟩ := hy.open
      cases e1
      have hy0 := hbn.1
      have HBN := hid hbn
      have HXL := hid hxl; have HYL := hid hyl
      rcases Nat.eq_zero_or_pos n1 with h0 | h0
      · have hx0 : x = 0 := by
          rcases Nat.eq_zero_or_pos x with e | e
          · exact e
          · have := px e; omega
        have hyG := hbn.2.1 hx0
        have HYG := hid hyG
        have hup := rup_v (q := p) (t := s) (hy.lv hyl) hm hs hps
        rw [HK.out] at hup
        subst h0
        clear hbn hxl hyl hx0 hyG zx px zy py
        go_wp2_with fail
        refine hup.mono ?_
        rintro e w5 ⟨v5, rfl, hv5, hb5⟩
        go_wp2_with fail
        go_ret
        exact ⟨v5, rfl, by rw [HGC.out, HK.out, ← HYG.out, Nat.mul_comm]; exact hv5, hB.trans (hb5.mono hB.size)⟩
      · have hx0 : 0 < x := Nat.pos_of_ne_zero fun e => by have := zx e; omega
        obtain ⟨q1, t1, z1, ht1, hq1, hnm1, htw1⟩ := twos_v hx hxl hm hx0
        have hd1 := rdown_v hx hxl hm ht1 hq1
        obtain ⟨o1, o2, o3⟩ := odd_of z1
        obtain ⟨k1, hk1⟩ : ∃ k, 32 * q1 + t1 = k := ⟨_, rfl⟩
        have hk1l : k1 ≤ 40000 := by omega
        rw [hk1] at htw1 hd1 z1 o1 o2 o3
        have Z1 := hid z1
        obtain ⟨X, hX⟩ : ∃ X, x / 2 ^ k1 = X := ⟨_, rfl⟩
        have HX := hid hX
        rw [hX] at hd1 o1 o2 o3
        clear z1 hX hk1 ht1 hq1 hnm1 hbn zx px zy py
        have HO1 := hid o1
        have hrx := hx.rdv; have hry := hy.rdv
        have HRX := hid hrx; have HRY := hid hry
        clear hrx hry o1
        go_wp2_with fail
        refine htw1.mono ?_
        rintro e w5 ⟨rfl, rfl⟩
        go_wp2_with fail
        refine hd1.mono ?_
        rintro e w6 ⟨v6, rfl, h6, b6⟩
        obtain ⟨A6, n6, c6, rfl, z6, p6, i6, j6, h6⟩ := h6.open
        have hy6 := hy.below b6
        obtain ⟨q2, t2, z2, ht2, hq2, hnm2, htw2⟩ := twos_v hy6 hyl hm hy0
        have hd2 := rdown_v hy6 hyl hm ht2 hq2
        obtain ⟨o4, o5, o6⟩ := odd_of z2
        obtain ⟨k2, hk2⟩ : ∃ k, 32 * q2 + t2 = k := ⟨_, rfl⟩
        have hk2l : k2 ≤ 40000 := by omega
        rw [hk2] at htw2 hd2 z2 o4 o5 o6
        have Z2 := hid z2
        obtain ⟨Y, hY⟩ : ∃ Y, y / 2 ^ k2 = Y := ⟨_, rfl⟩
        have HY := hid hY
        rw [hY] at hd2 o4 o5 o6
        clear z2 hY hk2 ht2 hq2 hnm2 htw1 hd1 z6 p6
        have HO4 := hid o4
        clear o4
        go_wp2_with fail
        refine htw2.mono ?_
        rintro e w7 ⟨rfl, rfl⟩
        go_wp2_with fail
        refine hd2.mono ?_
        rintro e w8 ⟨v8, rfl, h8, b8⟩
        obtain ⟨A8, n8, c8, rfl, z8, p8, i8, j8, h8⟩ := h8.open
        have h68 := h6.below b8
        have b68 := b6.trans (b8.mono b6.size)
        have hB8 := hB.trans (b68.mono hB.size)
        have hXl : X < BB ^ m := Nat.lt_of_le_of_lt o2 HXL.out
        have hYl : Y < BB ^ m := Nat.lt_of_le_of_lt o5 HYL.out
        have hXY : Nat.gcd X Y = G := by rw [← HX.out, ← HY.out]; exact HBN.out.2.2 _ _ Z1.out Z2.out
        have HXY := hid hXY
        obtain ⟨cz, hcz⟩ : ∃ cz, cmpOf X Y = cz := ⟨_, rfl⟩
        have hc1 := rcmp_v (h68.lv hXl) (h8.lv hYl)
        have hcl : cz < 0 ↔ X < Y := by
          rw [← hcz]
          unfold cmpOf
          split
          · exact ⟨fun _ => by assumption, fun _ => by omega⟩
          · split
            · exact ⟨fun h => by omega, fun h => by omega⟩
            · exact ⟨fun h => by omega, fun h => by omega⟩
        rw [hcz] at hc1
        clear htw2 hd2 z8 p8 h6 hy6 hx hy hXY hcz hxl hyl
        have HXl := hid hXl; have HYl := hid hYl
        clear hXl hYl
        rcases Nat.lt_or_ge X Y with hlt | hge
        · have hcz : cz < 0 := hcl.2 hlt
          have hsb := rsub_v (h8.lv HYl.out) (h68.lv HXl.out) hm (Nat.le_of_lt hlt)
          have hbt := Bin.turn (G := G) HO4.out HO1.out (by rw [Nat.gcd_comm]; exact HXY.out) (Nat.le_of_lt hlt)
          have HBT := hid hbt
          clear hbt hcl
          go_wp2_with fail
          refine hc1.mono ?_
          rintro e w9 ⟨rfl, rfl⟩
          go_wp2_with fail
          refine hsb.mono ?_
          rintro e w10 ⟨v10, rfl, h10, b10⟩
          obtain ⟨A10, n10, c10, rfl, z10, p10, i10, j10, h10⟩ := h10.open
          clear z10 p10
          go_wp2_with fail
          refine ⟨⟨A10, n10, c10, A6, n6, c6, Y - X, X, rfl, rfl, h10, h68.below b10, Nat.lt_of_le_of_lt (Nat.sub_le _ _) HYl.out, HXl.out, HBT.out, hB8.trans (b10.mono hB8.size)⟩, ?_⟩
          show rdv _ _ + rdv _ _ < rdv _ _ + rdv _ _
          rw [h10.rdv, (h68.below b10).rdv, HRX.out, HRY.out]
          omega
        · have hcz : ¬ cz < 0 := fun e => by have := hcl.1 e; omega
          have hsb := rsub_v (h68.lv HXl.out) (h8.lv HYl.out) hm hge
          have hbt := Bin.turn (G := G) HO1.out HO4.out HXY.out hge
          have HBT := hid hbt
          clear hbt hcl
          go_wp2_with fail
          refine hc1.mono ?_
          rintro e w9 ⟨rfl, rfl⟩
          go_wp2_with fail
          refine hsb.mono ?_
          rintro e w10 ⟨v10, rfl, h10, b10⟩
          obtain ⟨A10, n10, c10, rfl, z10, p10, i10, j10, h10⟩ := h10.open
          clear z10 p10
          go_wp2_with fail
          refine ⟨⟨A10, n10, c10, A8, n8, c8, X - Y, Y, rfl, rfl, h10, h8.below b10, Nat.lt_of_le_of_lt (Nat.sub_le _ _) HXl.out, HYl.out, HBT.out, hB8.trans (b10.mono hB8.size)⟩, ?_⟩
          show rdv _ _ + rdv _ _ < rdv _ _ + rdv _ _
          rw [h10.rdv, (h8.below b10).rdv, HRX.out, HRY.out]
          omega
end Go.Proofs.Wd

