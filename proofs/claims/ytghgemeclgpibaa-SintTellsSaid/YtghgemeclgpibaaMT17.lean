/- Natural numbers as values, and what prod and the references answer of them; The walk of straitlaw05.SintSmall; straitref05 and sint on integers as values: what SintTells calls. -/
import Derived.Test.YtghgemeclgpibaaMT10
import Derived.Test.YtghgemeclgpibaaMT7
import Derived.Test.YtghgemeclgpibaaMT16
import Derived.Test.YtghgemeclgpibaaMT9
namespace Go.Proofs.Wd
open Go.RowKit Lb

/-- The value v reads as x, in at most m limbs. -/
def LV (W : World) (m : Nat) (v : Value) (x : Nat) : Prop := ∃ A n c l, v = .slice A n c ∧ Rd W A n c l ∧ Lt l ∧ n ≤ m ∧ val l = x
theorem LV.mk {W : World} {m : Nat} {A : Option Addr} {n c : Nat} {l : List Nat} (h : Rd W A n c l) (ht : Lt l) (hn : n ≤ m) : LV W m (.slice A n c) (val l) := ⟨A, n, c, l, rfl, h, ht, hn, rfl⟩
theorem LV.below {W W' : World} {m : Nat} {v : Value} {x : Nat} (h : LV W m v x) (hb : Below W.heap.size W W') : LV W' m v x := by
  obtain ⟨A, n, c, l, rfl, h1, h2⟩ := h
  exact ⟨A, n, c, l, rfl, h1.below hb, h2⟩
theorem LV.mono {W : World} {m m' : Nat} {v : Value} {x : Nat} (h : LV W m v x) (hm : m ≤ m') : LV W m' v x := by
  obtain ⟨A, n, c, l, rfl, h1, h2, h3, h4⟩ := h
  exact ⟨A, n, c, l, rfl, h1, h2, by omega, h4⟩
theorem LV.bound {W : World} {m : Nat} {v : Value} {x : Nat} (h : LV W m v x) : x < BB ^ m := by
  obtain ⟨A, n, c, l, rfl, h1, h2, h3, rfl⟩ := h
  exact Nat.lt_of_lt_of_le (val_lt h2) (Nat.pow_le_pow_right BB_pos (by rw [h1.len]; exact h3))
theorem NatV.lv {W : World} {v : Value} {x m : Nat} (h : NatV W v x) (hx : x < BB ^ m) : LV W m v x := by
  obtain ⟨A, n, c, l, rfl, h1, h2⟩ := h
  exact ⟨A, n, c, l, rfl, h2, h1.lt, by rw [← h2.len]; exact h1.len hx, h1.val⟩
/-- A call's answer: a number. -/
def RetN (w : World) (x : Nat) : Ending → World → Prop := fun e w' => ∃ v, e = .returned v ∧ NatV w' v x ∧ Below w.heap.size w w'
theorem RetNat.v {w : World} {x : Nat} {e : Ending} {w' : World} (h : RetNat w x e w') : RetN w x e w' := by
  obtain ⟨A, n, c, l, rfl, h1, h2, h3⟩ := h
  exact ⟨_, rfl, ⟨A, n, c, l, rfl, h1, h2⟩, h3⟩

theorem mul_v {W : World} {m : Nat} {v v' : Value} {a b : Nat} (h : LV W m v a) (h' : LV W m v' b) (hm : m ≤ 40000) : Calls Try.prog 66 #[v, v'] W (RetN W (a * b)) := by
  obtain ⟨A, n, c, l, rfl, h1, h2, h3, rfl⟩ := h
  obtain ⟨A', n', c', l', rfl, h1', h2', h3', rfl⟩ := h'
  exact (mul_any A n c l A' n' c' l' W h1 h1' h2 h2' (by omega) (by omega)).mono fun _ _ => RetNat.v
/-- A call's answer: two numbers. -/
def RetN2 (w : World) (x y : Nat) : Ending → World → Prop := fun e w' => ∃ v v', e = .returned (.tuple #[v, v']) ∧ NatV w' v x ∧ NatV w' v' y ∧ Below w.heap.size w w'

theorem LV.open {W : World} {m : Nat} {v : Value} {x : Nat} (h : LV W m v x) : ∃ A n c, v = .slice A n c ∧ n ≤ m ∧ n ≤ c ∧ c ≤ 9223372036854775807 ∧ LV W m (.slice A n c) x := by
  obtain ⟨A, n, c, l, rfl, h1, h2, h3, h4⟩ := h
  exact ⟨A, n, c, rfl, h3, h1.le, h1.cap, ⟨A, n, c, l, rfl, h1, h2, h3, h4⟩⟩
/-- A call's answer: a quotient, a rest, that it is well. -/
def RetDN (w : World) (a b : Nat) : Ending → World → Prop := fun e w' => ∃ v v', e = .returned (.tuple #[v, v', .int .i64 0]) ∧ NatV w' v (a / b) ∧ NatV w' v' (a % b) ∧ Below w.heap.size w w'
theorem rdiv_v {W : World} {m : Nat} {v v' : Value} {a b : Nat} (h : LV W m v a) (h' : LV W m v' b) (hm : m ≤ 10000) (h0 : 0 < b) : Calls Try.prog 51 #[v, v'] W (RetDN W a b) := by
  obtain ⟨A, n, c, l, rfl, h1, h2, h3, rfl⟩ := h
  obtain ⟨A', n', c', l', rfl, h1', h2', h3', rfl⟩ := h'
  refine (rdiv_any A n c l A' n' c' l' W h1 h1' h2 h2' (by omega) (by omega) h0).mono ?_
  rintro e w' ⟨A1, n1, c1, l1, A2, n2, c2, l2, rfl, i1, r1, i2, r2, hb⟩
  exact ⟨_, _, rfl, ⟨A1, n1, c1, l1, rfl, i1, r1⟩, ⟨A2, n2, c2, l2, rfl, i2, r2⟩, hb⟩
set_option maxHeartbeats 1000000 in
theorem rdiv_zero_v {W : World} {m : Nat} {v v' : Value} {b : Nat} (h' : LV W m v' b) (hm : m ≤ 10000) (h0 : b = 0) : Calls Try.prog 51 #[v, v'] W fun e w' => e = .returned (.tuple #[.slice none 0 0, .slice none 0 0, .int .i64 30]) ∧ Below W.heap.size W w' := by
  obtain ⟨A', n', c', l', rfl, h1', h2', h3', h4⟩ := h'
  have htr := rtrim_any A' n' c' l' W h1' h2' (by omega)
  rw [h4, h0] at htr
  clear h4 h0
  go_enter Try.func51, Try.ntmps51
  go_wp2_with fail
  refine htr.mono ?_
  rintro e w1 ⟨A1, n1, c1, l1, rfl, hi1, hr1, hb1⟩
  obtain rfl : n1 = 0 := by rw [← hr1.len]; exact hi1.zero_iff.1 rfl
  go_wp2_with fail
  go_ret3
  exact ⟨rfl, hb1⟩
theorem rcmp_v {W : World} {m : Nat} {v v' : Value} {a b : Nat} (h : LV W m v a) (h' : LV W m v' b) : Calls Try.prog 17 #[v, v'] W fun e w' => e = .returned (.int .i64 (cmpOf a b)) ∧ W = w' := by
  obtain ⟨A, n, c, l, rfl, h1, h2, h3, rfl⟩ := h
  obtain ⟨A', n', c', l', rfl, h1', h2', h3', rfl⟩ := h'
  exact rcmp_any A n c l A' n' c' l' W h1 h1' h2 h2'
theorem radd2_v {W : World} {m : Nat} {A : Option Addr} {n c : Nat} {A' : Option Addr} {n' c' : Nat} {x y : Nat} (h : LV W m (.slice A n c) x) (h' : LV W m (.slice A' n' c') y) (hm : m ≤ 10000) (t : TypeId) :
    Calls Try.prog 63 #[.slice (some ⟨W.heap.size, 0, none⟩) 2 2] (W.alloc (.cells #[.slice A n c, .slice A' n' c'] t)) (RetN (W.alloc (.cells #[.slice A n c, .slice A' n' c'] t)) (x + y)) := by
  obtain ⟨A1, n1, c1, l, e1, h1, h2, h3, rfl⟩ := h
  obtain ⟨A2, n2, c2, l', e2, h1', h2', h3', rfl⟩ := h'
  cases e1
  cases e2
  have := radd_any _ 2 2 _ _ (Rds.two h1 h2 (by omega) h1' h2' (by omega) t) (by decide)
  simp only [List.map_cons, List.map_nil, List.sum_cons, List.sum_nil, Nat.add_zero] at this
  exact this.mono fun _ _ => RetNat.v

/-- A slice of numbers. -/
def LSV (W : World) (m : Nat) (v : Value) (xs : List Nat) : Prop := ∃ A c ls, v = .slice A xs.length c ∧ Rds W A xs.length ls ∧ (∀ l ∈ ls, l.length ≤ m) ∧ ls.map val = xs
theorem LSV.below {W W' : World} {m : Nat} {v : Value} {xs : List Nat} (h : LSV W m v xs) (hb : Below W.heap.size W W') : LSV W' m v xs := by
  obtain ⟨A, c, ls, h1, h2, h3⟩ := h
  exact ⟨A, c, ls, h1, h2.below hb, h3⟩

theorem NatV.nil (W : World) : NatV W (.slice none 0 0) 0 := ⟨none, 0, 0, [], rfl, Is.nil, Rd.nil_ W⟩

theorem LSV.two {W : World} {m : Nat} {A : Option Addr} {n c : Nat} {A' : Option Addr} {n' c' : Nat} {x y : Nat} (h : LV W m (.slice A n c) x) (h' : LV W m (.slice A' n' c') y) (hm : m ≤ 10000) (t : TypeId) :
    LSV (W.alloc (.cells #[.slice A n c, .slice A' n' c'] t)) m (.slice (some ⟨W.heap.size, 0, none⟩) 2 2) [x, y] := by
  obtain ⟨A1, n1, c1, l, e1, h1, h2, h3, rfl⟩ := h
  obtain ⟨A2, n2, c2, l', e2, h1', h2', h3', rfl⟩ := h'
  cases e1
  cases e2
  exact ⟨_, 2, [l, l'], rfl, Rds.two h1 h2 (by omega) h1' h2' (by omega) t, fun z hz => by simp at hz; rcases hz with rfl | rfl; exact (by rw [h1.len]; exact h3); exact (by rw [h1'.len]; exact h3'), rfl⟩
theorem LSV.three {W : World} {m : Nat} {A : Option Addr} {n c : Nat} {A' : Option Addr} {n' c' : Nat} {A'' : Option Addr} {n'' c'' : Nat} {x y z : Nat} (h : LV W m (.slice A n c) x) (h' : LV W m (.slice A' n' c') y) (h'' : LV W m (.slice A'' n'' c'') z) (hm : m ≤ 10000) (t : TypeId) :
    LSV (W.alloc (.cells #[.slice A n c, .slice A' n' c', .slice A'' n'' c''] t)) m (.slice (some ⟨W.heap.size, 0, none⟩) 3 3) [x, y, z] := by
  obtain ⟨A1, n1, c1, l, e1, h1, h2, h3, rfl⟩ := h
  obtain ⟨A2, n2, c2, l', e2, h1', h2', h3', rfl⟩ := h'
  obtain ⟨A3, n3, c3, l'', e3, h1'', h2'', h3'', rfl⟩ := h''
  cases e1
  cases e2
  cases e3
  exact ⟨_, 3, [l, l', l''], rfl, Rds.three h1 h2 (by omega) h1' h2' (by omega) h1'' h2'' (by omega) t, fun z hz => by simp at hz; rcases hz with rfl | rfl | rfl; exact (by rw [h1.len]; exact h3); exact (by rw [h1'.len]; exact h3'); exact (by rw [h1''.len]; exact h3''), rfl⟩
end Go.Proofs.Wd

namespace Go.Proofs.Wd
open Go.RowKit Lb
attribute [local go_sem] Oper.semAt_some wide_fn wide_depth

theorem of_v {W : World} (k : Int) (h : -9223372036854775808 ≤ k ∧ k ≤ 9223372036854775807) : Calls Try.prog 27 #[.int .i64 k] W (RetV W k) :=
  (sof2_any k h.1 h.2 W).mono fun _ _ => RetInt.v
theorem small_v {W : World} {v : Value} {k : Int} (h : NV W v k) (hk : -9223372036854775808 ≤ k ∧ k ≤ 9223372036854775807) : Calls Try.prog 26 #[v] W fun e w' => e = .returned (.tuple #[.int .i64 k, .bool true]) ∧ Below W.heap.size W w' := by
  obtain ⟨A, n, c, l, rfl, g1, g2⟩ := h
  exact smalls_lit k _ _ rfl rfl hk A n c l W g2 g1
/-- A floor division's answer. -/
def RetDV (w : World) (a b : Int) : Ending → World → Prop := fun e w' => ∃ q r v1 v2, e = .returned (.tuple #[v1, v2, .int .i64 0]) ∧ a = q * b + r ∧ FloorRest r b ∧ NV w' v1 q ∧ NV w' v2 r ∧ Below w.heap.size w w'
theorem div_v {W : World} {m : Nat} {v v' : Value} {k k' : Int} (h : UV W m v k) (h' : UV W m v' k') (hm : m ≤ 1000) (h0 : k' ≠ 0) : Calls Try.prog 10 #[v, v'] W (RetDV W k k') := by
  obtain ⟨s, A, n, c, l, rfl, h1, h2, h3, h4⟩ := h
  obtain ⟨s', A', n', c', l', rfl, h1', h2', h3', h4'⟩ := h'
  refine (sdiv_any s A n c l s' A' n' c' l' W k k' h1 h2 h1' h2' m h3 h3' hm h4 h4' h0 (qdiv_all _ _ (Int.natAbs_pos.2 h0))).mono ?_
  rintro e w' ⟨q, r, A1, n1, c1, l1, A2, n2, c2, l2, rfl, hq, hfr, hi1, hr1, hi2, hr2, hb⟩
  exact ⟨q, r, _, _, rfl, hq, hfr, ⟨A1, n1, c1, l1, rfl, hi1, hr1⟩, ⟨A2, n2, c2, l2, rfl, hi2, hr2⟩, hb⟩
theorem div_zero_v {W : World} {m : Nat} {v v' : Value} {k k' : Int} (h : UV W m v k) (h' : UV W m v' k') (hm : m ≤ 1000) (h0 : k' = 0) : Calls Try.prog 10 #[v, v'] W fun e w' => e = .returned (.tuple #[.agg #[.bool false, .slice none 0 0], .agg #[.bool false, .slice none 0 0], .int .i64 30]) ∧ Below W.heap.size W w' := by
  obtain ⟨s, A, n, c, l, rfl, h1, h2, h3, h4⟩ := h
  obtain ⟨s', A', n', c', l', rfl, h1', h2', h3', h4'⟩ := h'
  exact sdiv_zero s A n c l s' A' n' c' l' W k k' h1 h2 h1' h2' m h3 h3' hm h4 h4' h0

theorem bd_i64 {k : Int} (h : -9223372036854775808 ≤ k ∧ k ≤ 9223372036854775807) : Bd k 2 := by
  unfold Bd BB
  omega
theorem floor_unique {a b q r k : Int} (h : a = q * b + r) (hf : FloorRest r b) (hk : FloorRest (a - k * b) b) : q = k := by
  have e : (a - k * b) - r = (q - k) * b := by rw [h, Int.sub_mul]; omega
  generalize a - k * b = r' at *
  rcases Int.lt_trichotomy (q - k) 0 with hlt | heq | hgt
  · exfalso
    unfold FloorRest at *
    rcases hf with hf | hf
    · have : (q - k) * b ≤ -1 * b := Int.mul_le_mul_of_nonneg_right (by omega) (by omega)
      omega
    · have : -1 * b ≤ (q - k) * b := Int.mul_le_mul_of_nonpos_right (by omega) (by omega)
      omega
  · omega
  · exfalso
    unfold FloorRest at *
    rcases hf with hf | hf
    · have : 1 * b ≤ (q - k) * b := Int.mul_le_mul_of_nonneg_right (by omega) (by omega)
      omega
    · have : (q - k) * b ≤ 1 * b := Int.mul_le_mul_of_nonpos_right (by omega) (by omega)
      omega

set_option maxHeartbeats 1000000 in
theorem sintsmall_out (n a b : Int) (w : World) (hn : -9223372036854775808 ≤ n ∧ n ≤ 9223372036854775807) (hab : 1073741824 < a ∨ (a ≤ 1073741824 ∧ a < -1073741824) ∨ (-1073741824 ≤ a ∧ a ≤ 1073741824 ∧ 1073741824 < b) ∨ (-1073741824 ≤ a ∧ a ≤ 1073741824 ∧ b ≤ 1073741824 ∧ b < -1073741824)) :
    Calls Try.prog 6 #[.int .i64 n, .int .i64 a, .int .i64 b] w fun e w' => e = .returned (.bool true) ∧ Below w.heap.size w w' := by
  have o1 := fun W => of_v (W := W) n hn
  have hbd := bd_i64 hn
  rcases hab with h1 | ⟨h0, h1⟩ | ⟨h1, h2, h3⟩ | ⟨h1, h2, h3, h4⟩
  all_goals
    go_enter Try.func6, Try.ntmps6
    go_wp2_with fail
    refine (o1 _).mono ?_
    rintro e w1 ⟨v1, rfl, hv1, b1⟩
    go_wp2_with fail
    refine (small_v hv1 hn).mono ?_
    rintro e w2 ⟨rfl, b2⟩
    go_wp2_with fail
    refine (o1 _).mono ?_
    rintro e w3 ⟨v3, rfl, hv3, b3⟩
    go_wp2_with fail
    refine (norm_v (hv3.uv' hbd) (by decide)).mono ?_
    rintro e w4 ⟨v4, rfl, hv4, b4⟩
    go_wp2_with fail
    refine (lawsmall_t hv4 rfl hn.1 hn.2).mono ?_
    rintro e w5 ⟨rfl, b5⟩
    go_wp2_with fail
    refine (wakes_any _).mono ?_
    rintro e w6 ⟨rfl, b6⟩
    go_wp2_with fail
    go_ret
    have t2 := b1.trans (b2.mono b1.size)
    have t3 := t2.trans (b3.mono t2.size)
    have t4 := t3.trans (b4.mono t3.size)
    have t5 := t4.trans (b5.mono t4.size)
    exact ⟨rfl, t5.trans (b6.mono t5.size)⟩
/-! ### in range -/
theorem tdiv_facts (a b : Int) (hb : b ≠ 0) (ha : -1073741824 ≤ a ∧ a ≤ 1073741824) : -1073741824 ≤ a.tdiv b ∧ a.tdiv b ≤ 1073741824 ∧ a = a.tdiv b * b + a.tmod b ∧ (a.tmod b).natAbs < b.natAbs ∧ (0 ≤ a → 0 ≤ a.tmod b) ∧ (a ≤ 0 → a.tmod b ≤ 0) := by
  have h1 : a.tdiv b * b + a.tmod b = a := by rw [Int.mul_comm]; exact Int.mul_tdiv_add_tmod a b
  have h2 : (a.tdiv b).natAbs ≤ a.natAbs := Int.natAbs_tdiv_le_natAbs a b
  have h3 : (a.tmod b).natAbs < b.natAbs := by
    rw [Int.natAbs_tmod]
    exact Nat.mod_lt _ (Int.natAbs_pos.2 hb)
  have h4 : 0 ≤ a → 0 ≤ a.tmod b := fun h => Int.tmod_nonneg b h
  have h5 : a ≤ 0 → a.tmod b ≤ 0 := fun h => by
    have := Int.tmod_nonneg b (show 0 ≤ -a by omega)
    rw [Int.neg_tmod] at this
    omega
  exact ⟨by omega, by omega, h1.symm, h3, h4, h5⟩
theorem prod_small {a b : Int} (ha : -1073741824 ≤ a ∧ a ≤ 1073741824) (hb : -1073741824 ≤ b ∧ b ≤ 1073741824) : -1152921504606846976 ≤ a * b ∧ a * b ≤ 1152921504606846976 := by
  have h : (a * b).natAbs ≤ 1073741824 * 1073741824 := by
    rw [Int.natAbs_mul]
    exact Nat.mul_le_mul (by omega) (by omega)
  omega


set_option maxHeartbeats 400000 in
theorem sintsmall_zero (n a b : Int) (w : World) (hn : -9223372036854775808 ≤ n ∧ n ≤ 9223372036854775807) (ha : -1073741824 ≤ a ∧ a ≤ 1073741824) (hb : -1073741824 ≤ b ∧ b ≤ 1073741824) (hb0 : b = 0) :
    Calls Try.prog 6 #[.int .i64 n, .int .i64 a, .int .i64 b] w fun e w' => e = .returned (.bool true) ∧ Below w.heap.size w w' := by
  have o1 := fun W => of_v (W := W) n hn
  have o2 := fun W => of_v (W := W) a (by omega)
  have o3 := fun W => of_v (W := W) b (by omega)
  have hbd := bd_i64 hn
  have ba : Bd a 2 := bd_i64 (by omega)
  have bb : Bd b 2 := bd_i64 (by omega)
  obtain ⟨ha1, ha2⟩ := ha
  obtain ⟨hb1, hb2⟩ := hb
  have hab := prod_small ⟨ha1, ha2⟩ ⟨hb1, hb2⟩
  obtain ⟨p, hp⟩ : ∃ p, a * b = p := ⟨_, rfl⟩
  rw [hp] at hab
  have hpp : -9223372036854775808 ≤ p ∧ p ≤ 9223372036854775807 := by omega
  obtain ⟨hab1, hab2⟩ := hab
  have HAB := hid hp
  have HZ := hid hb0
  clear hb0
  go_enter Try.func6, Try.ntmps6
  go_wp2_with fail
  with_reducible refine (o1 _).mono ?_
  rintro e w1 ⟨vz1, rfl, hz1, b1⟩
  have d0_1 := b1
  go_wp2_with fail
  with_reducible refine (small_v hz1 hn).mono ?_
  rintro e w2 ⟨rfl, b2⟩
  have d0_2 := d0_1.trans (b2.mono d0_1.size)
  have d1_2 := b2
  go_wp2_with fail
  with_reducible refine (o1 _).mono ?_
  rintro e w3 ⟨vz2, rfl, hz2, b3⟩
  have d0_3 := d0_2.trans (b3.mono d0_2.size)
  have d1_3 := d1_2.trans (b3.mono d1_2.size)
  have d2_3 := b3
  go_wp2_with fail
  with_reducible refine (norm_v (hz2.uv' hbd) (by decide)).mono ?_
  rintro e w4 ⟨vz3, rfl, hz3, b4⟩
  have d0_4 := d0_3.trans (b4.mono d0_3.size)
  have d1_4 := d1_3.trans (b4.mono d1_3.size)
  have d2_4 := d2_3.trans (b4.mono d2_3.size)
  have d3_4 := b4
  go_wp2_with fail
  with_reducible refine (lawsmall_t hz3 rfl hn.1 hn.2).mono ?_
  rintro e w5 ⟨rfl, b5⟩
  have d0_5 := d0_4.trans (b5.mono d0_4.size)
  have d1_5 := d1_4.trans (b5.mono d1_4.size)
  have d2_5 := d2_4.trans (b5.mono d2_4.size)
  have d3_5 := d3_4.trans (b5.mono d3_4.size)
  have d4_5 := b5
  go_wp2_with fail
  with_reducible refine (o2 _).mono ?_
  rintro e w6 ⟨vs, rfl, hs, b6⟩
  have d0_6 := d0_5.trans (b6.mono d0_5.size)
  have d1_6 := d1_5.trans (b6.mono d1_5.size)
  have d2_6 := d2_5.trans (b6.mono d2_5.size)
  have d3_6 := d3_5.trans (b6.mono d3_5.size)
  have d4_6 := d4_5.trans (b6.mono d4_5.size)
  have d5_6 := b6
  go_wp2_with fail
  with_reducible refine (o3 _).mono ?_
  rintro e w7 ⟨vt, rfl, ht, b7⟩
  have d0_7 := d0_6.trans (b7.mono d0_6.size)
  have d1_7 := d1_6.trans (b7.mono d1_6.size)
  have d2_7 := d2_6.trans (b7.mono d2_6.size)
  have d3_7 := d3_6.trans (b7.mono d3_6.size)
  have d4_7 := d4_6.trans (b7.mono d4_6.size)
  have d5_7 := d5_6.trans (b7.mono d5_6.size)
  have d6_7 := b7
  obtain ⟨ss, As, ns, cs, rfl, us⟩ := NV.open (hs.below d6_7) ba
  obtain ⟨st, At, nt, ct, rfl, ut⟩ := NV.open ht bb
  obtain ⟨Wb, hWb⟩ : ∃ Wb, (w7.alloc (.cells #[.bool ss, .slice As ns cs] 25)).alloc (.cells #[.bool st, .slice At nt ct] 25) = Wb := ⟨_, rfl⟩
  have x0 : BoxN Wb w7.heap.size 25 #[.bool ss, .slice As ns cs] := by rw [← hWb]; exact (BoxN.new w7 _ _).alloc _
  have x1 : BoxN Wb (w7.heap.size + 1) 25 #[.bool st, .slice At nt ct] := by rw [← hWb]; exact BoxN.at_ _ _ _ (by simp)
  have bW : Below w7.heap.size w7 Wb := by rw [← hWb]; exact ((Below.refl _ w7).alloc (Nat.le_refl _) _).alloc (by simp) _
  have hszb : Wb.heap.size = w7.heap.size + 1 + 1 := by rw [← hWb]; simp
  have ua : ∀ W, Below Wb.heap.size Wb W → UV W 2 (.agg #[.bool ss, .slice As ns cs]) a := fun W hb => (us.below bW).below hb
  have ub : ∀ W, Below Wb.heap.size Wb W → UV W 2 (.agg #[.bool st, .slice At nt ct]) b := fun W hb => (ut.below bW).below hb
  have cf : ∀ W, Below Wb.heap.size Wb W → (W.cell? ⟨w7.heap.size, 0, none⟩ = some (.bool ss) ∧ W.cell? ⟨w7.heap.size, 1, none⟩ = some (.slice As ns cs)) ∧ W.cell? ⟨w7.heap.size + 1, 0, none⟩ = some (.bool st) ∧ W.cell? ⟨w7.heap.size + 1, 1, none⟩ = some (.slice At nt ct) := fun W hb => ⟨(x0.kept hb).facts2.1, (x1.kept hb).facts2.1⟩
  have HSZ := hid hszb
  clear hszb us ut
  have d0_8 := d0_7.trans (bW.mono d0_7.size)
  have d1_8 := d1_7.trans (bW.mono d1_7.size)
  have d2_8 := d2_7.trans (bW.mono d2_7.size)
  have d3_8 := d3_7.trans (bW.mono d3_7.size)
  have d4_8 := d4_7.trans (bW.mono d4_7.size)
  have d5_8 := d5_7.trans (bW.mono d5_7.size)
  have d6_8 := d6_7.trans (bW.mono d6_7.size)
  have d7_8 := bW
  have ivp := ISV.two (ua Wb (Below.refl _ Wb)) (ub Wb (Below.refl _ Wb)) 25
  obtain ⟨Vp, hVp⟩ : ∃ V, Wb.alloc (.cells #[.bool ss, .slice As ns cs, .bool st, .slice At nt ct] 25) = V := ⟨_, rfl⟩
  have bVp : Below Wb.heap.size Wb Vp := by rw [← hVp]; exact (Below.refl _ _).alloc (Nat.le_refl _) _
  rw [hVp] at ivp
  obtain ⟨⟨q1, q2⟩, q3, q4⟩ := cf Wb (Below.refl _ Wb)
  go_wp2_with fail
  have d0_9 := d0_8.trans (bVp.mono d0_8.size)
  have d1_9 := d1_8.trans (bVp.mono d1_8.size)
  have d2_9 := d2_8.trans (bVp.mono d2_8.size)
  have d3_9 := d3_8.trans (bVp.mono d3_8.size)
  have d4_9 := d4_8.trans (bVp.mono d4_8.size)
  have d5_9 := d5_8.trans (bVp.mono d5_8.size)
  have d6_9 := d6_8.trans (bVp.mono d6_8.size)
  have d7_9 := d7_8.trans (bVp.mono d7_8.size)
  have d8_9 := bVp
  with_reducible refine (add_w (k := a + b) ivp (by decide) (by simp) (by simp)).mono ?_
  rintro e w10 ⟨vp, rfl, hp, b10⟩
  have d0_10 := d0_9.trans (b10.mono d0_9.size)
  have d1_10 := d1_9.trans (b10.mono d1_9.size)
  have d2_10 := d2_9.trans (b10.mono d2_9.size)
  have d3_10 := d3_9.trans (b10.mono d3_9.size)
  have d4_10 := d4_9.trans (b10.mono d4_9.size)
  have d5_10 := d5_9.trans (b10.mono d5_9.size)
  have d6_10 := d6_9.trans (b10.mono d6_9.size)
  have d7_10 := d7_9.trans (b10.mono d7_9.size)
  have d8_10 := d8_9.trans (b10.mono d8_9.size)
  have d9_10 := b10
  clear hVp
  obtain ⟨⟨q1, q2⟩, q3, q4⟩ := cf w10 d8_10
  go_wp2_with fail
  with_reducible refine (lawsmall_t hp rfl (by omega) (by omega)).mono ?_
  rintro e w11 ⟨rfl, b11⟩
  have d0_11 := d0_10.trans (b11.mono d0_10.size)
  have d1_11 := d1_10.trans (b11.mono d1_10.size)
  have d2_11 := d2_10.trans (b11.mono d2_10.size)
  have d3_11 := d3_10.trans (b11.mono d3_10.size)
  have d4_11 := d4_10.trans (b11.mono d4_10.size)
  have d5_11 := d5_10.trans (b11.mono d5_10.size)
  have d6_11 := d6_10.trans (b11.mono d6_10.size)
  have d7_11 := d7_10.trans (b11.mono d7_10.size)
  have d8_11 := d8_10.trans (b11.mono d8_10.size)
  have d9_11 := d9_10.trans (b11.mono d9_10.size)
  have d10_11 := b11
  obtain ⟨⟨q1, q2⟩, q3, q4⟩ := cf w11 d8_11
  go_wp2_with fail
  with_reducible refine (sub_v (ua _ d8_11) (ub _ d8_11) (by decide)).mono ?_
  rintro e w12 ⟨vm, rfl, hm, b12⟩
  have d0_12 := d0_11.trans (b12.mono d0_11.size)
  have d1_12 := d1_11.trans (b12.mono d1_11.size)
  have d2_12 := d2_11.trans (b12.mono d2_11.size)
  have d3_12 := d3_11.trans (b12.mono d3_11.size)
  have d4_12 := d4_11.trans (b12.mono d4_11.size)
  have d5_12 := d5_11.trans (b12.mono d5_11.size)
  have d6_12 := d6_11.trans (b12.mono d6_11.size)
  have d7_12 := d7_11.trans (b12.mono d7_11.size)
  have d8_12 := d8_11.trans (b12.mono d8_11.size)
  have d9_12 := d9_11.trans (b12.mono d9_11.size)
  have d10_12 := d10_11.trans (b12.mono d10_11.size)
  have d11_12 := b12
  obtain ⟨⟨q1, q2⟩, q3, q4⟩ := cf w12 d8_12
  go_wp2_with fail
  with_reducible refine (lawsmall_t hm rfl (by omega) (by omega)).mono ?_
  rintro e w13 ⟨rfl, b13⟩
  have d0_13 := d0_12.trans (b13.mono d0_12.size)
  have d1_13 := d1_12.trans (b13.mono d1_12.size)
  have d2_13 := d2_12.trans (b13.mono d2_12.size)
  have d3_13 := d3_12.trans (b13.mono d3_12.size)
  have d4_13 := d4_12.trans (b13.mono d4_12.size)
  have d5_13 := d5_12.trans (b13.mono d5_12.size)
  have d6_13 := d6_12.trans (b13.mono d6_12.size)
  have d7_13 := d7_12.trans (b13.mono d7_12.size)
  have d8_13 := d8_12.trans (b13.mono d8_12.size)
  have d9_13 := d9_12.trans (b13.mono d9_12.size)
  have d10_13 := d10_12.trans (b13.mono d10_12.size)
  have d11_13 := d11_12.trans (b13.mono d11_12.size)
  have d12_13 := b13
  obtain ⟨⟨q1, q2⟩, q3, q4⟩ := cf w13 d8_13
  have ivx := ISV.two (ua w13 d8_13) (ub w13 d8_13) 25
  obtain ⟨Vx, hVx⟩ : ∃ V, w13.alloc (.cells #[.bool ss, .slice As ns cs, .bool st, .slice At nt ct] 25) = V := ⟨_, rfl⟩
  have bVx : Below w13.heap.size w13 Vx := by rw [← hVx]; exact (Below.refl _ _).alloc (Nat.le_refl _) _
  rw [hVx] at ivx
  obtain ⟨⟨q1, q2⟩, q3, q4⟩ := cf w13 d8_13
  go_wp2_with fail
  have d0_14 := d0_13.trans (bVx.mono d0_13.size)
  have d1_14 := d1_13.trans (bVx.mono d1_13.size)
  have d2_14 := d2_13.trans (bVx.mono d2_13.size)
  have d3_14 := d3_13.trans (bVx.mono d3_13.size)
  have d4_14 := d4_13.trans (bVx.mono d4_13.size)
  have d5_14 := d5_13.trans (bVx.mono d5_13.size)
  have d6_14 := d6_13.trans (bVx.mono d6_13.size)
  have d7_14 := d7_13.trans (bVx.mono d7_13.size)
  have d8_14 := d8_13.trans (bVx.mono d8_13.size)
  have d9_14 := d9_13.trans (bVx.mono d9_13.size)
  have d10_14 := d10_13.trans (bVx.mono d10_13.size)
  have d11_14 := d11_13.trans (bVx.mono d11_13.size)
  have d12_14 := d12_13.trans (bVx.mono d12_13.size)
  have d13_14 := bVx
  with_reducible refine (mul_w (k := a * b) ivx (by simp) (by simp) (by simp)).mono ?_
  rintro e w15 ⟨vx, rfl, hx, b15⟩
  have d0_15 := d0_14.trans (b15.mono d0_14.size)
  have d1_15 := d1_14.trans (b15.mono d1_14.size)
  have d2_15 := d2_14.trans (b15.mono d2_14.size)
  have d3_15 := d3_14.trans (b15.mono d3_14.size)
  have d4_15 := d4_14.trans (b15.mono d4_14.size)
  have d5_15 := d5_14.trans (b15.mono d5_14.size)
  have d6_15 := d6_14.trans (b15.mono d6_14.size)
  have d7_15 := d7_14.trans (b15.mono d7_14.size)
  have d8_15 := d8_14.trans (b15.mono d8_14.size)
  have d9_15 := d9_14.trans (b15.mono d9_14.size)
  have d10_15 := d10_14.trans (b15.mono d10_14.size)
  have d11_15 := d11_14.trans (b15.mono d11_14.size)
  have d12_15 := d12_14.trans (b15.mono d12_14.size)
  have d13_15 := d13_14.trans (b15.mono d13_14.size)
  have d14_15 := b15
  clear hVx
  obtain ⟨⟨q1, q2⟩, q3, q4⟩ := cf w15 d8_15
  rw [HAB.out] at hx
  go_wp2_with fail
  with_reducible refine (lawsmall_t hx rfl hpp.1 hpp.2).mono ?_
  rintro e w16 ⟨rfl, b16⟩
  have d0_16 := d0_15.trans (b16.mono d0_15.size)
  have d1_16 := d1_15.trans (b16.mono d1_15.size)
  have d2_16 := d2_15.trans (b16.mono d2_15.size)
  have d3_16 := d3_15.trans (b16.mono d3_15.size)
  have d4_16 := d4_15.trans (b16.mono d4_15.size)
  have d5_16 := d5_15.trans (b16.mono d5_15.size)
  have d6_16 := d6_15.trans (b16.mono d6_15.size)
  have d7_16 := d7_15.trans (b16.mono d7_15.size)
  have d8_16 := d8_15.trans (b16.mono d8_15.size)
  have d9_16 := d9_15.trans (b16.mono d9_15.size)
  have d10_16 := d10_15.trans (b16.mono d10_15.size)
  have d11_16 := d11_15.trans (b16.mono d11_15.size)
  have d12_16 := d12_15.trans (b16.mono d12_15.size)
  have d13_16 := d13_15.trans (b16.mono d13_15.size)
  have d14_16 := d14_15.trans (b16.mono d14_15.size)
  have d15_16 := b16
  obtain ⟨⟨q1, q2⟩, q3, q4⟩ := cf w16 d8_16
  go_wp2_with fail
  with_reducible refine (neg_v (ua _ d8_16) (by decide)).mono ?_
  rintro e w17 ⟨vg, rfl, hg, b17⟩
  have d0_17 := d0_16.trans (b17.mono d0_16.size)
  have d1_17 := d1_16.trans (b17.mono d1_16.size)
  have d2_17 := d2_16.trans (b17.mono d2_16.size)
  have d3_17 := d3_16.trans (b17.mono d3_16.size)
  have d4_17 := d4_16.trans (b17.mono d4_16.size)
  have d5_17 := d5_16.trans (b17.mono d5_16.size)
  have d6_17 := d6_16.trans (b17.mono d6_16.size)
  have d7_17 := d7_16.trans (b17.mono d7_16.size)
  have d8_17 := d8_16.trans (b17.mono d8_16.size)
  have d9_17 := d9_16.trans (b17.mono d9_16.size)
  have d10_17 := d10_16.trans (b17.mono d10_16.size)
  have d11_17 := d11_16.trans (b17.mono d11_16.size)
  have d12_17 := d12_16.trans (b17.mono d12_16.size)
  have d13_17 := d13_16.trans (b17.mono d13_16.size)
  have d14_17 := d14_16.trans (b17.mono d14_16.size)
  have d15_17 := d15_16.trans (b17.mono d15_16.size)
  have d16_17 := b17
  obtain ⟨⟨q1, q2⟩, q3, q4⟩ := cf w17 d8_17
  go_wp2_with fail
  with_reducible refine (lawsmall_t hg rfl (by omega) (by omega)).mono ?_
  rintro e w18 ⟨rfl, b18⟩
  have d0_18 := d0_17.trans (b18.mono d0_17.size)
  have d1_18 := d1_17.trans (b18.mono d1_17.size)
  have d2_18 := d2_17.trans (b18.mono d2_17.size)
  have d3_18 := d3_17.trans (b18.mono d3_17.size)
  have d4_18 := d4_17.trans (b18.mono d4_17.size)
  have d5_18 := d5_17.trans (b18.mono d5_17.size)
  have d6_18 := d6_17.trans (b18.mono d6_17.size)
  have d7_18 := d7_17.trans (b18.mono d7_17.size)
  have d8_18 := d8_17.trans (b18.mono d8_17.size)
  have d9_18 := d9_17.trans (b18.mono d9_17.size)
  have d10_18 := d10_17.trans (b18.mono d10_17.size)
  have d11_18 := d11_17.trans (b18.mono d11_17.size)
  have d12_18 := d12_17.trans (b18.mono d12_17.size)
  have d13_18 := d13_17.trans (b18.mono d13_17.size)
  have d14_18 := d14_17.trans (b18.mono d14_17.size)
  have d15_18 := d15_17.trans (b18.mono d15_17.size)
  have d16_18 := d16_17.trans (b18.mono d16_17.size)
  have d17_18 := b18
  obtain ⟨⟨q1, q2⟩, q3, q4⟩ := cf w18 d8_18
  go_wp2_with fail
  with_reducible refine (div_zero_v (ua _ d8_18) (ub _ d8_18) (by decide) HZ.out).mono ?_
  rintro e w19 ⟨rfl, b19⟩
  have d0_19 := d0_18.trans (b19.mono d0_18.size)
  have d1_19 := d1_18.trans (b19.mono d1_18.size)
  have d2_19 := d2_18.trans (b19.mono d2_18.size)
  have d3_19 := d3_18.trans (b19.mono d3_18.size)
  have d4_19 := d4_18.trans (b19.mono d4_18.size)
  have d5_19 := d5_18.trans (b19.mono d5_18.size)
  have d6_19 := d6_18.trans (b19.mono d6_18.size)
  have d7_19 := d7_18.trans (b19.mono d7_18.size)
  have d8_19 := d8_18.trans (b19.mono d8_18.size)
  have d9_19 := d9_18.trans (b19.mono d9_18.size)
  have d10_19 := d10_18.trans (b19.mono d10_18.size)
  have d11_19 := d11_18.trans (b19.mono d11_18.size)
  have d12_19 := d12_18.trans (b19.mono d12_18.size)
  have d13_19 := d13_18.trans (b19.mono d13_18.size)
  have d14_19 := d14_18.trans (b19.mono d14_18.size)
  have d15_19 := d15_18.trans (b19.mono d15_18.size)
  have d16_19 := d16_18.trans (b19.mono d16_18.size)
  have d17_19 := d17_18.trans (b19.mono d17_18.size)
  have d18_19 := b19
  obtain ⟨⟨q1, q2⟩, q3, q4⟩ := cf w19 d8_19
  have hbt : ((b : Int) == 0) = true := by rw [HZ.out]; rfl
  have bPz : Below w19.heap.size w19 ((w19.alloc (.cells #[.bool false, .slice none 0 0] 25)).alloc (.cells #[.bool false, .slice none 0 0] 25)) := ((Below.refl _ w19).alloc (Nat.le_refl _) _).alloc (by simp) _
  have d0_20 := d0_19.trans (bPz.mono d0_19.size)
  have d1_20 := d1_19.trans (bPz.mono d1_19.size)
  have d2_20 := d2_19.trans (bPz.mono d2_19.size)
  have d3_20 := d3_19.trans (bPz.mono d3_19.size)
  have d4_20 := d4_19.trans (bPz.mono d4_19.size)
  have d5_20 := d5_19.trans (bPz.mono d5_19.size)
  have d6_20 := d6_19.trans (bPz.mono d6_19.size)
  have d7_20 := d7_19.trans (bPz.mono d7_19.size)
  have d8_20 := d8_19.trans (bPz.mono d8_19.size)
  have d9_20 := d9_19.trans (bPz.mono d9_19.size)
  have d10_20 := d10_19.trans (bPz.mono d10_19.size)
  have d11_20 := d11_19.trans (bPz.mono d11_19.size)
  have d12_20 := d12_19.trans (bPz.mono d12_19.size)
  have d13_20 := d13_19.trans (bPz.mono d13_19.size)
  have d14_20 := d14_19.trans (bPz.mono d14_19.size)
  have d15_20 := d15_19.trans (bPz.mono d15_19.size)
  have d16_20 := d16_19.trans (bPz.mono d16_19.size)
  have d17_20 := d17_19.trans (bPz.mono d17_19.size)
  have d18_20 := d18_19.trans (bPz.mono d18_19.size)
  have d19_20 := bPz
  go_wp2_with fail
  with_reducible refine (wakes_any _).mono ?_
  rintro e w21 ⟨rfl, b21⟩
  have d0_21 := d0_20.trans (b21.mono d0_20.size)
  have d1_21 := d1_20.trans (b21.mono d1_20.size)
  have d2_21 := d2_20.trans (b21.mono d2_20.size)
  have d3_21 := d3_20.trans (b21.mono d3_20.size)
  have d4_21 := d4_20.trans (b21.mono d4_20.size)
  have d5_21 := d5_20.trans (b21.mono d5_20.size)
  have d6_21 := d6_20.trans (b21.mono d6_20.size)
  have d7_21 := d7_20.trans (b21.mono d7_20.size)
  have d8_21 := d8_20.trans (b21.mono d8_20.size)
  have d9_21 := d9_20.trans (b21.mono d9_20.size)
  have d10_21 := d10_20.trans (b21.mono d10_20.size)
  have d11_21 := d11_20.trans (b21.mono d11_20.size)
  have d12_21 := d12_20.trans (b21.mono d12_20.size)
  have d13_21 := d13_20.trans (b21.mono d13_20.size)
  have d14_21 := d14_20.trans (b21.mono d14_20.size)
  have d15_21 := d15_20.trans (b21.mono d15_20.size)
  have d16_21 := d16_20.trans (b21.mono d16_20.size)
  have d17_21 := d17_20.trans (b21.mono d17_20.size)
  have d18_21 := d18_20.trans (b21.mono d18_20.size)
  have d19_21 := d19_20.trans (b21.mono d19_20.size)
  have d20_21 := b21
  go_wp2_with fail
  go_ret
  exact ⟨rfl, d0_21⟩
theorem quo_bd {a b q r : Int} (h1 : a = q * b + r) (h2 : FloorRest r b) (ha : -1073741824 ≤ a ∧ a ≤ 1073741824) (hb : -1073741824 ≤ b ∧ b ≤ 1073741824) : Bd q 3 := by
  have hb0 : b ≠ 0 := by unfold FloorRest at h2; omega
  have h : q.natAbs ≤ (q * b).natAbs := by
    rw [Int.natAbs_mul]
    exact Nat.le_mul_of_pos_right _ (Int.natAbs_pos.2 hb0)
  have h3 : (q * b).natAbs ≤ 4294967296 := by unfold FloorRest at h2; omega
  unfold Bd BB
  omega

set_option maxHeartbeats 400000 in
theorem sintsmall_pos (n a b : Int) (w : World) (hn : -9223372036854775808 ≤ n ∧ n ≤ 9223372036854775807) (ha : -1073741824 ≤ a ∧ a ≤ 1073741824) (hb : -1073741824 ≤ b ∧ b ≤ 1073741824) (hb0 : b ≠ 0) :
    Calls Try.prog 6 #[.int .i64 n, .int .i64 a, .int .i64 b] w fun e w' => e = .returned (.bool true) ∧ Below w.heap.size w w' := by
  have o1 := fun W => of_v (W := W) n hn
  have o2 := fun W => of_v (W := W) a (by omega)
  have o3 := fun W => of_v (W := W) b (by omega)
  have hbd := bd_i64 hn
  have ba : Bd a 2 := bd_i64 (by omega)
  have bb : Bd b 2 := bd_i64 (by omega)
  obtain ⟨ha1, ha2⟩ := ha
  obtain ⟨hb1, hb2⟩ := hb
  have hab := prod_small ⟨ha1, ha2⟩ ⟨hb1, hb2⟩
  obtain ⟨p, hp⟩ : ∃ p, a * b = p := ⟨_, rfl⟩
  rw [hp] at hab
  have hpp : -9223372036854775808 ≤ p ∧ p ≤ 9223372036854775807 := by omega
  obtain ⟨hab1, hab2⟩ := hab
  have HAB := hid hp
  have HZ := hid hb0
  clear hb0
  go_enter Try.func6, Try.ntmps6
  go_wp2_with fail
  with_reducible refine (o1 _).mono ?_
  rintro e w1 ⟨vz1, rfl, hz1, b1⟩
  have d0_1 := b1
  go_wp2_with fail
  with_reducible refine (small_v hz1 hn).mono ?_
  rintro e w2 ⟨rfl, b2⟩
  have d0_2 := d0_1.trans (b2.mono d0_1.size)
  have d1_2 := b2
  go_wp2_with fail
  with_reducible refine (o1 _).mono ?_
  rintro e w3 ⟨vz2, rfl, hz2, b3⟩
  have d0_3 := d0_2.trans (b3.mono d0_2.size)
  have d1_3 := d1_2.trans (b3.mono d1_2.size)
  have d2_3 := b3
  go_wp2_with fail
  with_reducible refine (norm_v (hz2.uv' hbd) (by decide)).mono ?_
  rintro e w4 ⟨vz3, rfl, hz3, b4⟩
  have d0_4 := d0_3.trans (b4.mono d0_3.size)
  have d1_4 := d1_3.trans (b4.mono d1_3.size)
  have d2_4 := d2_3.trans (b4.mono d2_3.size)
  have d3_4 := b4
  go_wp2_with fail
  with_reducible refine (lawsmall_t hz3 rfl hn.1 hn.2).mono ?_
  rintro e w5 ⟨rfl, b5⟩
  have d0_5 := d0_4.trans (b5.mono d0_4.size)
  have d1_5 := d1_4.trans (b5.mono d1_4.size)
  have d2_5 := d2_4.trans (b5.mono d2_4.size)
  have d3_5 := d3_4.trans (b5.mono d3_4.size)
  have d4_5 := b5
  go_wp2_with fail
  with_reducible refine (o2 _).mono ?_
  rintro e w6 ⟨vs, rfl, hs, b6⟩
  have d0_6 := d0_5.trans (b6.mono d0_5.size)
  have d1_6 := d1_5.trans (b6.mono d1_5.size)
  have d2_6 := d2_5.trans (b6.mono d2_5.size)
  have d3_6 := d3_5.trans (b6.mono d3_5.size)
  have d4_6 := d4_5.trans (b6.mono d4_5.size)
  have d5_6 := b6
  go_wp2_with fail
  with_reducible refine (o3 _).mono ?_
  rintro e w7 ⟨vt, rfl, ht, b7⟩
  have d0_7 := d0_6.trans (b7.mono d0_6.size)
  have d1_7 := d1_6.trans (b7.mono d1_6.size)
  have d2_7 := d2_6.trans (b7.mono d2_6.size)
  have d3_7 := d3_6.trans (b7.mono d3_6.size)
  have d4_7 := d4_6.trans (b7.mono d4_6.size)
  have d5_7 := d5_6.trans (b7.mono d5_6.size)
  have d6_7 := b7
  obtain ⟨ss, As, ns, cs, rfl, us⟩ := NV.open (hs.below d6_7) ba
  obtain ⟨st, At, nt, ct, rfl, ut⟩ := NV.open ht bb
  obtain ⟨Wb, hWb⟩ : ∃ Wb, (w7.alloc (.cells #[.bool ss, .slice As ns cs] 25)).alloc (.cells #[.bool st, .slice At nt ct] 25) = Wb := ⟨_, rfl⟩
  have x0 : BoxN Wb w7.heap.size 25 #[.bool ss, .slice As ns cs] := by rw [← hWb]; exact (BoxN.new w7 _ _).alloc _
  have x1 : BoxN Wb (w7.heap.size + 1) 25 #[.bool st, .slice At nt ct] := by rw [← hWb]; exact BoxN.at_ _ _ _ (by simp)
  have bW : Below w7.heap.size w7 Wb := by rw [← hWb]; exact ((Below.refl _ w7).alloc (Nat.le_refl _) _).alloc (by simp) _
  have hszb : Wb.heap.size = w7.heap.size + 1 + 1 := by rw [← hWb]; simp
  have ua : ∀ W, Below Wb.heap.size Wb W → UV W 2 (.agg #[.bool ss, .slice As ns cs]) a := fun W hb => (us.below bW).below hb
  have ub : ∀ W, Below Wb.heap.size Wb W → UV W 2 (.agg #[.bool st, .slice At nt ct]) b := fun W hb => (ut.below bW).below hb
  have cf : ∀ W, Below Wb.heap.size Wb W → (W.cell? ⟨w7.heap.size, 0, none⟩ = some (.bool ss) ∧ W.cell? ⟨w7.heap.size, 1, none⟩ = some (.slice As ns cs)) ∧ W.cell? ⟨w7.heap.size + 1, 0, none⟩ = some (.bool st) ∧ W.cell? ⟨w7.heap.size + 1, 1, none⟩ = some (.slice At nt ct) := fun W hb => ⟨(x0.kept hb).facts2.1, (x1.kept hb).facts2.1⟩
  have HSZ := hid hszb
  clear hszb us ut
  have d0_8 := d0_7.trans (bW.mono d0_7.size)
  have d1_8 := d1_7.trans (bW.mono d1_7.size)
  have d2_8 := d2_7.trans (bW.mono d2_7.size)
  have d3_8 := d3_7.trans (bW.mono d3_7.size)
  have d4_8 := d4_7.trans (bW.mono d4_7.size)
  have d5_8 := d5_7.trans (bW.mono d5_7.size)
  have d6_8 := d6_7.trans (bW.mono d6_7.size)
  have d7_8 := bW
  have ivp := ISV.two (ua Wb (Below.refl _ Wb)) (ub Wb (Below.refl _ Wb)) 25
  obtain ⟨Vp, hVp⟩ : ∃ V, Wb.alloc (.cells #[.bool ss, .slice As ns cs, .bool st, .slice At nt ct] 25) = V := ⟨_, rfl⟩
  have bVp : Below Wb.heap.size Wb Vp := by rw [← hVp]; exact (Below.refl _ _).alloc (Nat.le_refl _) _
  rw [hVp] at ivp
  obtain ⟨⟨q1, q2⟩, q3, q4⟩ := cf Wb (Below.refl _ Wb)
  go_wp2_with fail
  have d0_9 := d0_8.trans (bVp.mono d0_8.size)
  have d1_9 := d1_8.trans (bVp.mono d1_8.size)
  have d2_9 := d2_8.trans (bVp.mono d2_8.size)
  have d3_9 := d3_8.trans (bVp.mono d3_8.size)
  have d4_9 := d4_8.trans (bVp.mono d4_8.size)
  have d5_9 := d5_8.trans (bVp.mono d5_8.size)
  have d6_9 := d6_8.trans (bVp.mono d6_8.size)
  have d7_9 := d7_8.trans (bVp.mono d7_8.size)
  have d8_9 := bVp
  with_reducible refine (add_w (k := a + b) ivp (by decide) (by simp) (by simp)).mono ?_
  rintro e w10 ⟨vp, rfl, hp, b10⟩
  have d0_10 := d0_9.trans (b10.mono d0_9.size)
  have d1_10 := d1_9.trans (b10.mono d1_9.size)
  have d2_10 := d2_9.trans (b10.mono d2_9.size)
  have d3_10 := d3_9.trans (b10.mono d3_9.size)
  have d4_10 := d4_9.trans (b10.mono d4_9.size)
  have d5_10 := d5_9.trans (b10.mono d5_9.size)
  have d6_10 := d6_9.trans (b10.mono d6_9.size)
  have d7_10 := d7_9.trans (b10.mono d7_9.size)
  have d8_10 := d8_9.trans (b10.mono d8_9.size)
  have d9_10 := b10
  clear hVp
  obtain ⟨⟨q1, q2⟩, q3, q4⟩ := cf w10 d8_10
  go_wp2_with fail
  with_reducible refine (lawsmall_t hp rfl (by omega) (by omega)).mono ?_
  rintro e w11 ⟨rfl, b11⟩
  have d0_11 := d0_10.trans (b11.mono d0_10.size)
  have d1_11 := d1_10.trans (b11.mono d1_10.size)
  have d2_11 := d2_10.trans (b11.mono d2_10.size)
  have d3_11 := d3_10.trans (b11.mono d3_10.size)
  have d4_11 := d4_10.trans (b11.mono d4_10.size)
  have d5_11 := d5_10.trans (b11.mono d5_10.size)
  have d6_11 := d6_10.trans (b11.mono d6_10.size)
  have d7_11 := d7_10.trans (b11.mono d7_10.size)
  have d8_11 := d8_10.trans (b11.mono d8_10.size)
  have d9_11 := d9_10.trans (b11.mono d9_10.size)
  have d10_11 := b11
  obtain ⟨⟨q1, q2⟩, q3, q4⟩ := cf w11 d8_11
  go_wp2_with fail
  with_reducible refine (sub_v (ua _ d8_11) (ub _ d8_11) (by decide)).mono ?_
  rintro e w12 ⟨vm, rfl, hm, b12⟩
  have d0_12 := d0_11.trans (b12.mono d0_11.size)
  have d1_12 := d1_11.trans (b12.mono d1_11.size)
  have d2_12 := d2_11.trans (b12.mono d2_11.size)
  have d3_12 := d3_11.trans (b12.mono d3_11.size)
  have d4_12 := d4_11.trans (b12.mono d4_11.size)
  have d5_12 := d5_11.trans (b12.mono d5_11.size)
  have d6_12 := d6_11.trans (b12.mono d6_11.size)
  have d7_12 := d7_11.trans (b12.mono d7_11.size)
  have d8_12 := d8_11.trans (b12.mono d8_11.size)
  have d9_12 := d9_11.trans (b12.mono d9_11.size)
  have d10_12 := d10_11.trans (b12.mono d10_11.size)
  have d11_12 := b12
  obtain ⟨⟨q1, q2⟩, q3, q4⟩ := cf w12 d8_12
  go_wp2_with fail
  with_reducible refine (lawsmall_t hm rfl (by omega) (by omega)).mono ?_
  rintro e w13 ⟨rfl, b13⟩
  have d0_13 := d0_12.trans (b13.mono d0_12.size)
  have d1_13 := d1_12.trans (b13.mono d1_12.size)
  have d2_13 := d2_12.trans (b13.mono d2_12.size)
  have d3_13 := d3_12.trans (b13.mono d3_12.size)
  have d4_13 := d4_12.trans (b13.mono d4_12.size)
  have d5_13 := d5_12.trans (b13.mono d5_12.size)
  have d6_13 := d6_12.trans (b13.mono d6_12.size)
  have d7_13 := d7_12.trans (b13.mono d7_12.size)
  have d8_13 := d8_12.trans (b13.mono d8_12.size)
  have d9_13 := d9_12.trans (b13.mono d9_12.size)
  have d10_13 := d10_12.trans (b13.mono d10_12.size)
  have d11_13 := d11_12.trans (b13.mono d11_12.size)
  have d12_13 := b13
  obtain ⟨⟨q1, q2⟩, q3, q4⟩ := cf w13 d8_13
  have ivx := ISV.two (ua w13 d8_13) (ub w13 d8_13) 25
  obtain ⟨Vx, hVx⟩ : ∃ V, w13.alloc (.cells #[.bool ss, .slice As ns cs, .bool st, .slice At nt ct] 25) = V := ⟨_, rfl⟩
  have bVx : Below w13.heap.size w13 Vx := by rw [← hVx]; exact (Below.refl _ _).alloc (Nat.le_refl _) _
  rw [hVx] at ivx
  obtain ⟨⟨q1, q2⟩, q3, q4⟩ := cf w13 d8_13
  go_wp2_with fail
  have d0_14 := d0_13.trans (bVx.mono d0_13.size)
  have d1_14 := d1_13.trans (bVx.mono d1_13.size)
  have d2_14 := d2_13.trans (bVx.mono d2_13.size)
  have d3_14 := d3_13.trans (bVx.mono d3_13.size)
  have d4_14 := d4_13.trans (bVx.mono d4_13.size)
  have d5_14 := d5_13.trans (bVx.mono d5_13.size)
  have d6_14 := d6_13.trans (bVx.mono d6_13.size)
  have d7_14 := d7_13.trans (bVx.mono d7_13.size)
  have d8_14 := d8_13.trans (bVx.mono d8_13.size)
  have d9_14 := d9_13.trans (bVx.mono d9_13.size)
  have d10_14 := d10_13.trans (bVx.mono d10_13.size)
  have d11_14 := d11_13.trans (bVx.mono d11_13.size)
  have d12_14 := d12_13.trans (bVx.mono d12_13.size)
  have d13_14 := bVx
  with_reducible refine (mul_w (k := a * b) ivx (by simp) (by simp) (by simp)).mono ?_
  rintro e w15 ⟨vx, rfl, hx, b15⟩
  have d0_15 := d0_14.trans (b15.mono d0_14.size)
  have d1_15 := d1_14.trans (b15.mono d1_14.size)
  have d2_15 := d2_14.trans (b15.mono d2_14.size)
  have d3_15 := d3_14.trans (b15.mono d3_14.size)
  have d4_15 := d4_14.trans (b15.mono d4_14.size)
  have d5_15 := d5_14.trans (b15.mono d5_14.size)
  have d6_15 := d6_14.trans (b15.mono d6_14.size)
  have d7_15 := d7_14.trans (b15.mono d7_14.size)
  have d8_15 := d8_14.trans (b15.mono d8_14.size)
  have d9_15 := d9_14.trans (b15.mono d9_14.size)
  have d10_15 := d10_14.trans (b15.mono d10_14.size)
  have d11_15 := d11_14.trans (b15.mono d11_14.size)
  have d12_15 := d12_14.trans (b15.mono d12_14.size)
  have d13_15 := d13_14.trans (b15.mono d13_14.size)
  have d14_15 := b15
  clear hVx
  obtain ⟨⟨q1, q2⟩, q3, q4⟩ := cf w15 d8_15
  rw [HAB.out] at hx
  go_wp2_with fail
  with_reducible refine (lawsmall_t hx rfl hpp.1 hpp.2).mono ?_
  rintro e w16 ⟨rfl, b16⟩
  have d0_16 := d0_15.trans (b16.mono d0_15.size)
  have d1_16 := d1_15.trans (b16.mono d1_15.size)
  have d2_16 := d2_15.trans (b16.mono d2_15.size)
  have d3_16 := d3_15.trans (b16.mono d3_15.size)
  have d4_16 := d4_15.trans (b16.mono d4_15.size)
  have d5_16 := d5_15.trans (b16.mono d5_15.size)
  have d6_16 := d6_15.trans (b16.mono d6_15.size)
  have d7_16 := d7_15.trans (b16.mono d7_15.size)
  have d8_16 := d8_15.trans (b16.mono d8_15.size)
  have d9_16 := d9_15.trans (b16.mono d9_15.size)
  have d10_16 := d10_15.trans (b16.mono d10_15.size)
  have d11_16 := d11_15.trans (b16.mono d11_15.size)
  have d12_16 := d12_15.trans (b16.mono d12_15.size)
  have d13_16 := d13_15.trans (b16.mono d13_15.size)
  have d14_16 := d14_15.trans (b16.mono d14_15.size)
  have d15_16 := b16
  obtain ⟨⟨q1, q2⟩, q3, q4⟩ := cf w16 d8_16
  go_wp2_with fail
  with_reducible refine (neg_v (ua _ d8_16) (by decide)).mono ?_
  rintro e w17 ⟨vg, rfl, hg, b17⟩
  have d0_17 := d0_16.trans (b17.mono d0_16.size)
  have d1_17 := d1_16.trans (b17.mono d1_16.size)
  have d2_17 := d2_16.trans (b17.mono d2_16.size)
  have d3_17 := d3_16.trans (b17.mono d3_16.size)
  have d4_17 := d4_16.trans (b17.mono d4_16.size)
  have d5_17 := d5_16.trans (b17.mono d5_16.size)
  have d6_17 := d6_16.trans (b17.mono d6_16.size)
  have d7_17 := d7_16.trans (b17.mono d7_16.size)
  have d8_17 := d8_16.trans (b17.mono d8_16.size)
  have d9_17 := d9_16.trans (b17.mono d9_16.size)
  have d10_17 := d10_16.trans (b17.mono d10_16.size)
  have d11_17 := d11_16.trans (b17.mono d11_16.size)
  have d12_17 := d12_16.trans (b17.mono d12_16.size)
  have d13_17 := d13_16.trans (b17.mono d13_16.size)
  have d14_17 := d14_16.trans (b17.mono d14_16.size)
  have d15_17 := d15_16.trans (b17.mono d15_16.size)
  have d16_17 := b17
  obtain ⟨⟨q1, q2⟩, q3, q4⟩ := cf w17 d8_17
  go_wp2_with fail
  with_reducible refine (lawsmall_t hg rfl (by omega) (by omega)).mono ?_
  rintro e w18 ⟨rfl, b18⟩
  have d0_18 := d0_17.trans (b18.mono d0_17.size)
  have d1_18 := d1_17.trans (b18.mono d1_17.size)
  have d2_18 := d2_17.trans (b18.mono d2_17.size)
  have d3_18 := d3_17.trans (b18.mono d3_17.size)
  have d4_18 := d4_17.trans (b18.mono d4_17.size)
  have d5_18 := d5_17.trans (b18.mono d5_17.size)
  have d6_18 := d6_17.trans (b18.mono d6_17.size)
  have d7_18 := d7_17.trans (b18.mono d7_17.size)
  have d8_18 := d8_17.trans (b18.mono d8_17.size)
  have d9_18 := d9_17.trans (b18.mono d9_17.size)
  have d10_18 := d10_17.trans (b18.mono d10_17.size)
  have d11_18 := d11_17.trans (b18.mono d11_17.size)
  have d12_18 := d12_17.trans (b18.mono d12_17.size)
  have d13_18 := d13_17.trans (b18.mono d13_17.size)
  have d14_18 := d14_17.trans (b18.mono d14_17.size)
  have d15_18 := d15_17.trans (b18.mono d15_17.size)
  have d16_18 := d16_17.trans (b18.mono d16_17.size)
  have d17_18 := b18
  obtain ⟨⟨q1, q2⟩, q3, q4⟩ := cf w18 d8_18
  go_wp2_with fail
  with_reducible refine (div_v (ua _ d8_18) (ub _ d8_18) (by decide) HZ.out).mono ?_
  rintro e w19 ⟨q, r, vq, vr, rfl, hqr, hfr, hvq, hvr, b19⟩
  have d0_19 := d0_18.trans (b19.mono d0_18.size)
  have d1_19 := d1_18.trans (b19.mono d1_18.size)
  have d2_19 := d2_18.trans (b19.mono d2_18.size)
  have d3_19 := d3_18.trans (b19.mono d3_18.size)
  have d4_19 := d4_18.trans (b19.mono d4_18.size)
  have d5_19 := d5_18.trans (b19.mono d5_18.size)
  have d6_19 := d6_18.trans (b19.mono d6_18.size)
  have d7_19 := d7_18.trans (b19.mono d7_18.size)
  have d8_19 := d8_18.trans (b19.mono d8_18.size)
  have d9_19 := d9_18.trans (b19.mono d9_18.size)
  have d10_19 := d10_18.trans (b19.mono d10_18.size)
  have d11_19 := d11_18.trans (b19.mono d11_18.size)
  have d12_19 := d12_18.trans (b19.mono d12_18.size)
  have d13_19 := d13_18.trans (b19.mono d13_18.size)
  have d14_19 := d14_18.trans (b19.mono d14_18.size)
  have d15_19 := d15_18.trans (b19.mono d15_18.size)
  have d16_19 := d16_18.trans (b19.mono d16_18.size)
  have d17_19 := d17_18.trans (b19.mono d17_18.size)
  have d18_19 := b19
  obtain ⟨⟨q1, q2⟩, q3, q4⟩ := cf w19 d8_19
  have HQR := hid hqr; have HFR := hid hfr
  clear hqr hfr
  have hbt : ((b : Int) == 0) = false := beq_eq_false_iff_ne.2 HZ.out
  obtain ⟨f1, f2, f3, f4, f5, f6⟩ := tdiv_facts a b HZ.out ⟨ha1, ha2⟩
  have bq : Bd q 3 := by
    have h1 := HQR.out; have h2 := HFR.out
    exact quo_bd h1 h2 ⟨ha1, ha2⟩ ⟨hb1, hb2⟩
  have br : Bd r 2 := by
    have h2 := HFR.out
    unfold FloorRest at h2
    exact bd_i64 (by omega)
  obtain ⟨sq, Aq, nq, cq, rfl, uq⟩ := NV.open hvq bq
  obtain ⟨sr, Ar, nr, cr, rfl, ur⟩ := NV.open hvr br
  have x2 := (BoxN.new w19 25 #[.bool sq, .slice Aq nq cq]).alloc (.cells #[.bool sr, .slice Ar nr cr] 25)
  have x3 := BoxN.at_ (w19.alloc (.cells #[.bool sq, .slice Aq nq cq] 25)) 25 #[.bool sr, .slice Ar nr cr] (b := w19.heap.size + 1) (by simp)
  have bPd : Below w19.heap.size w19 ((w19.alloc (.cells #[.bool sq, .slice Aq nq cq] 25)).alloc (.cells #[.bool sr, .slice Ar nr cr] 25)) := ((Below.refl _ w19).alloc (Nat.le_refl _) _).alloc (by simp) _
  have d0_20 := d0_19.trans (bPd.mono d0_19.size)
  have d1_20 := d1_19.trans (bPd.mono d1_19.size)
  have d2_20 := d2_19.trans (bPd.mono d2_19.size)
  have d3_20 := d3_19.trans (bPd.mono d3_19.size)
  have d4_20 := d4_19.trans (bPd.mono d4_19.size)
  have d5_20 := d5_19.trans (bPd.mono d5_19.size)
  have d6_20 := d6_19.trans (bPd.mono d6_19.size)
  have d7_20 := d7_19.trans (bPd.mono d7_19.size)
  have d8_20 := d8_19.trans (bPd.mono d8_19.size)
  have d9_20 := d9_19.trans (bPd.mono d9_19.size)
  have d10_20 := d10_19.trans (bPd.mono d10_19.size)
  have d11_20 := d11_19.trans (bPd.mono d11_19.size)
  have d12_20 := d12_19.trans (bPd.mono d12_19.size)
  have d13_20 := d13_19.trans (bPd.mono d13_19.size)
  have d14_20 := d14_19.trans (bPd.mono d14_19.size)
  have d15_20 := d15_19.trans (bPd.mono d15_19.size)
  have d16_20 := d16_19.trans (bPd.mono d16_19.size)
  have d17_20 := d17_19.trans (bPd.mono d17_19.size)
  have d18_20 := d18_19.trans (bPd.mono d18_19.size)
  have d19_20 := bPd
  obtain ⟨Wd, hWd⟩ : ∃ Wd, ((w19.alloc (.cells #[.bool sq, .slice Aq nq cq] 25)).alloc (.cells #[.bool sr, .slice Ar nr cr] 25)) = Wd := ⟨_, rfl⟩
  rw [hWd] at d0_20
  rw [hWd] at d1_20
  rw [hWd] at d2_20
  rw [hWd] at d3_20
  rw [hWd] at d4_20
  rw [hWd] at d5_20
  rw [hWd] at d6_20
  rw [hWd] at d7_20
  rw [hWd] at d8_20
  rw [hWd] at d9_20
  rw [hWd] at d10_20
  rw [hWd] at d11_20
  rw [hWd] at d12_20
  rw [hWd] at d13_20
  rw [hWd] at d14_20
  rw [hWd] at d15_20
  rw [hWd] at d16_20
  rw [hWd] at d17_20
  rw [hWd] at d18_20
  rw [hWd] at d19_20
  rw [hWd] at x2 x3
  have nq2 : NV Wd (.agg #[.bool sq, .slice Aq nq cq]) q := (hvq.below d19_20)
  have nr2 : NV Wd (.agg #[.bool sr, .slice Ar nr cr]) r := (hvr.below d19_20)
  obtain ⟨⟨y1, y2⟩, _, _⟩ := x2.facts2
  obtain ⟨⟨y3, y4⟩, _, _⟩ := x3.facts2
  obtain ⟨tq, htq⟩ : ∃ x, a.tdiv b = x := ⟨_, rfl⟩
  obtain ⟨tr, htr⟩ : ∃ x, a.tmod b = x := ⟨_, rfl⟩
  rw [htq] at f1 f2 f3
  rw [htr] at f3 f4 f5 f6
  have F3 := hid f3; have F4 := hid f4; have F5 := hid f5; have F6 := hid f6
  clear f3 f4 f5 f6
  have hcases : (tr = 0) ∨ (tr ≠ 0 ∧ a < 0 ∧ b < 0) ∨ (tr ≠ 0 ∧ 0 ≤ a ∧ 0 < b) ∨ (tr ≠ 0 ∧ a < 0 ∧ 0 < b) ∨ (tr ≠ 0 ∧ 0 ≤ a ∧ b < 0) := by
    have := HZ.out
    omega
  rcases hcases with h0 | ⟨h0, h1, h2⟩ | ⟨h0, h1, h2⟩ | ⟨h0, h1, h2⟩ | ⟨h0, h1, h2⟩
  · have htb : ((tr : Int) != 0) = false := by rw [h0]; rfl
    have hk : tq * b = a - tr := by
      have := F3.out
      omega
    obtain ⟨kb, hkb⟩ : ∃ x, tq * b = x := ⟨_, rfl⟩
    rw [hkb] at hk
    have g4 := F4.out; have g5 := F5.out; have g6 := F6.out
    have gz := HZ.out
    have hfk : FloorRest (a - tq * b) b := by
      rw [hkb]
      unfold FloorRest
      omega
    have hqk : q = tq := floor_unique HQR.out HFR.out hfk
    have hrk : r = a - kb := by
      have := HQR.out
      rw [hqk, hkb] at this
      omega
    have hb3 : -9223372036854775808 ≤ kb ∧ kb ≤ 9223372036854775807 := by omega
    obtain ⟨hb31, hb32⟩ := hb3
    have hb4 : -9223372036854775808 ≤ a - kb ∧ a - kb ≤ 9223372036854775807 := by omega
    obtain ⟨hb41, hb42⟩ := hb4
    have HQK := hid hqk; have HRK := hid hrk
    clear hqk hrk hfk hk g4 g5 g6 gz h0
    go_wp2_with fail
    with_reducible refine (lawsmall_t nq2 HQK.out (by omega) (by omega)).mono ?_
    rintro e w21 ⟨rfl, b21⟩
    have d0_21 := d0_20.trans (b21.mono d0_20.size)
    have d1_21 := d1_20.trans (b21.mono d1_20.size)
    have d2_21 := d2_20.trans (b21.mono d2_20.size)
    have d3_21 := d3_20.trans (b21.mono d3_20.size)
    have d4_21 := d4_20.trans (b21.mono d4_20.size)
    have d5_21 := d5_20.trans (b21.mono d5_20.size)
    have d6_21 := d6_20.trans (b21.mono d6_20.size)
    have d7_21 := d7_20.trans (b21.mono d7_20.size)
    have d8_21 := d8_20.trans (b21.mono d8_20.size)
    have d9_21 := d9_20.trans (b21.mono d9_20.size)
    have d10_21 := d10_20.trans (b21.mono d10_20.size)
    have d11_21 := d11_20.trans (b21.mono d11_20.size)
    have d12_21 := d12_20.trans (b21.mono d12_20.size)
    have d13_21 := d13_20.trans (b21.mono d13_20.size)
    have d14_21 := d14_20.trans (b21.mono d14_20.size)
    have d15_21 := d15_20.trans (b21.mono d15_20.size)
    have d16_21 := d16_20.trans (b21.mono d16_20.size)
    have d17_21 := d17_20.trans (b21.mono d17_20.size)
    have d18_21 := d18_20.trans (b21.mono d18_20.size)
    have d19_21 := d19_20.trans (b21.mono d19_20.size)
    have d20_21 := b21
    obtain ⟨⟨y1, y2⟩, _, _⟩ := (x2.kept d20_21).facts2
    obtain ⟨⟨y3, y4⟩, _, _⟩ := (x3.kept d20_21).facts2
    go_wp2_with fail
    with_reducible refine (lawsmall_t (nr2.below d20_21) HRK.out hb41 hb42).mono ?_
    rintro e w22 ⟨rfl, b22⟩
    have d0_22 := d0_21.trans (b22.mono d0_21.size)
    have d1_22 := d1_21.trans (b22.mono d1_21.size)
    have d2_22 := d2_21.trans (b22.mono d2_21.size)
    have d3_22 := d3_21.trans (b22.mono d3_21.size)
    have d4_22 := d4_21.trans (b22.mono d4_21.size)
    have d5_22 := d5_21.trans (b22.mono d5_21.size)
    have d6_22 := d6_21.trans (b22.mono d6_21.size)
    have d7_22 := d7_21.trans (b22.mono d7_21.size)
    have d8_22 := d8_21.trans (b22.mono d8_21.size)
    have d9_22 := d9_21.trans (b22.mono d9_21.size)
    have d10_22 := d10_21.trans (b22.mono d10_21.size)
    have d11_22 := d11_21.trans (b22.mono d11_21.size)
    have d12_22 := d12_21.trans (b22.mono d12_21.size)
    have d13_22 := d13_21.trans (b22.mono d13_21.size)
    have d14_22 := d14_21.trans (b22.mono d14_21.size)
    have d15_22 := d15_21.trans (b22.mono d15_21.size)
    have d16_22 := d16_21.trans (b22.mono d16_21.size)
    have d17_22 := d17_21.trans (b22.mono d17_21.size)
    have d18_22 := d18_21.trans (b22.mono d18_21.size)
    have d19_22 := d19_21.trans (b22.mono d19_21.size)
    have d20_22 := d20_21.trans (b22.mono d20_21.size)
    have d21_22 := b22
    go_wp2_with fail
    with_reducible refine (wakes_any _).mono ?_
    rintro e w23 ⟨rfl, b23⟩
    have d0_23 := d0_22.trans (b23.mono d0_22.size)
    have d1_23 := d1_22.trans (b23.mono d1_22.size)
    have d2_23 := d2_22.trans (b23.mono d2_22.size)
    have d3_23 := d3_22.trans (b23.mono d3_22.size)
    have d4_23 := d4_22.trans (b23.mono d4_22.size)
    have d5_23 := d5_22.trans (b23.mono d5_22.size)
    have d6_23 := d6_22.trans (b23.mono d6_22.size)
    have d7_23 := d7_22.trans (b23.mono d7_22.size)
    have d8_23 := d8_22.trans (b23.mono d8_22.size)
    have d9_23 := d9_22.trans (b23.mono d9_22.size)
    have d10_23 := d10_22.trans (b23.mono d10_22.size)
    have d11_23 := d11_22.trans (b23.mono d11_22.size)
    have d12_23 := d12_22.trans (b23.mono d12_22.size)
    have d13_23 := d13_22.trans (b23.mono d13_22.size)
    have d14_23 := d14_22.trans (b23.mono d14_22.size)
    have d15_23 := d15_22.trans (b23.mono d15_22.size)
    have d16_23 := d16_22.trans (b23.mono d16_22.size)
    have d17_23 := d17_22.trans (b23.mono d17_22.size)
    have d18_23 := d18_22.trans (b23.mono d18_22.size)
    have d19_23 := d19_22.trans (b23.mono d19_22.size)
    have d20_23 := d20_22.trans (b23.mono d20_22.size)
    have d21_23 := d21_22.trans (b23.mono d21_22.size)
    have d22_23 := b23
    go_wp2_with fail
    go_ret
    exact ⟨rfl, d0_23⟩
  · have htb : ((tr : Int) != 0) = true := bne_iff_ne.2 h0
    have hda : decide (a < 0) = true := decide_eq_true h1
    have hdb : decide (b < 0) = true := decide_eq_true h2
    have hk : tq * b = a - tr := by
      have := F3.out
      omega
    obtain ⟨kb, hkb⟩ : ∃ x, tq * b = x := ⟨_, rfl⟩
    rw [hkb] at hk
    have g4 := F4.out; have g5 := F5.out; have g6 := F6.out
    have gz := HZ.out
    have hfk : FloorRest (a - tq * b) b := by
      rw [hkb]
      unfold FloorRest
      omega
    have hqk : q = tq := floor_unique HQR.out HFR.out hfk
    have hrk : r = a - kb := by
      have := HQR.out
      rw [hqk, hkb] at this
      omega
    have hb3 : -9223372036854775808 ≤ kb ∧ kb ≤ 9223372036854775807 := by omega
    obtain ⟨hb31, hb32⟩ := hb3
    have hb4 : -9223372036854775808 ≤ a - kb ∧ a - kb ≤ 9223372036854775807 := by omega
    obtain ⟨hb41, hb42⟩ := hb4
    have HQK := hid hqk; have HRK := hid hrk
    clear hqk hrk hfk hk g4 g5 g6 gz h0
    go_wp2_with fail
    with_reducible refine (lawsmall_t nq2 HQK.out (by omega) (by omega)).mono ?_
    rintro e w21 ⟨rfl, b21⟩
    have d0_21 := d0_20.trans (b21.mono d0_20.size)
    have d1_21 := d1_20.trans (b21.mono d1_20.size)
    have d2_21 := d2_20.trans (b21.mono d2_20.size)
    have d3_21 := d3_20.trans (b21.mono d3_20.size)
    have d4_21 := d4_20.trans (b21.mono d4_20.size)
    have d5_21 := d5_20.trans (b21.mono d5_20.size)
    have d6_21 := d6_20.trans (b21.mono d6_20.size)
    have d7_21 := d7_20.trans (b21.mono d7_20.size)
    have d8_21 := d8_20.trans (b21.mono d8_20.size)
    have d9_21 := d9_20.trans (b21.mono d9_20.size)
    have d10_21 := d10_20.trans (b21.mono d10_20.size)
    have d11_21 := d11_20.trans (b21.mono d11_20.size)
    have d12_21 := d12_20.trans (b21.mono d12_20.size)
    have d13_21 := d13_20.trans (b21.mono d13_20.size)
    have d14_21 := d14_20.trans (b21.mono d14_20.size)
    have d15_21 := d15_20.trans (b21.mono d15_20.size)
    have d16_21 := d16_20.trans (b21.mono d16_20.size)
    have d17_21 := d17_20.trans (b21.mono d17_20.size)
    have d18_21 := d18_20.trans (b21.mono d18_20.size)
    have d19_21 := d19_20.trans (b21.mono d19_20.size)
    have d20_21 := b21
    obtain ⟨⟨y1, y2⟩, _, _⟩ := (x2.kept d20_21).facts2
    obtain ⟨⟨y3, y4⟩, _, _⟩ := (x3.kept d20_21).facts2
    go_wp2_with fail
    with_reducible refine (lawsmall_t (nr2.below d20_21) HRK.out hb41 hb42).mono ?_
    rintro e w22 ⟨rfl, b22⟩
    have d0_22 := d0_21.trans (b22.mono d0_21.size)
    have d1_22 := d1_21.trans (b22.mono d1_21.size)
    have d2_22 := d2_21.trans (b22.mono d2_21.size)
    have d3_22 := d3_21.trans (b22.mono d3_21.size)
    have d4_22 := d4_21.trans (b22.mono d4_21.size)
    have d5_22 := d5_21.trans (b22.mono d5_21.size)
    have d6_22 := d6_21.trans (b22.mono d6_21.size)
    have d7_22 := d7_21.trans (b22.mono d7_21.size)
    have d8_22 := d8_21.trans (b22.mono d8_21.size)
    have d9_22 := d9_21.trans (b22.mono d9_21.size)
    have d10_22 := d10_21.trans (b22.mono d10_21.size)
    have d11_22 := d11_21.trans (b22.mono d11_21.size)
    have d12_22 := d12_21.trans (b22.mono d12_21.size)
    have d13_22 := d13_21.trans (b22.mono d13_21.size)
    have d14_22 := d14_21.trans (b22.mono d14_21.size)
    have d15_22 := d15_21.trans (b22.mono d15_21.size)
    have d16_22 := d16_21.trans (b22.mono d16_21.size)
    have d17_22 := d17_21.trans (b22.mono d17_21.size)
    have d18_22 := d18_21.trans (b22.mono d18_21.size)
    have d19_22 := d19_21.trans (b22.mono d19_21.size)
    have d20_22 := d20_21.trans (b22.mono d20_21.size)
    have d21_22 := b22
    go_wp2_with fail
    with_reducible refine (wakes_any _).mono ?_
    rintro e w23 ⟨rfl, b23⟩
    have d0_23 := d0_22.trans (b23.mono d0_22.size)
    have d1_23 := d1_22.trans (b23.mono d1_22.size)
    have d2_23 := d2_22.trans (b23.mono d2_22.size)
    have d3_23 := d3_22.trans (b23.mono d3_22.size)
    have d4_23 := d4_22.trans (b23.mono d4_22.size)
    have d5_23 := d5_22.trans (b23.mono d5_22.size)
    have d6_23 := d6_22.trans (b23.mono d6_22.size)
    have d7_23 := d7_22.trans (b23.mono d7_22.size)
    have d8_23 := d8_22.trans (b23.mono d8_22.size)
    have d9_23 := d9_22.trans (b23.mono d9_22.size)
    have d10_23 := d10_22.trans (b23.mono d10_22.size)
    have d11_23 := d11_22.trans (b23.mono d11_22.size)
    have d12_23 := d12_22.trans (b23.mono d12_22.size)
    have d13_23 := d13_22.trans (b23.mono d13_22.size)
    have d14_23 := d14_22.trans (b23.mono d14_22.size)
    have d15_23 := d15_22.trans (b23.mono d15_22.size)
    have d16_23 := d16_22.trans (b23.mono d16_22.size)
    have d17_23 := d17_22.trans (b23.mono d17_22.size)
    have d18_23 := d18_22.trans (b23.mono d18_22.size)
    have d19_23 := d19_22.trans (b23.mono d19_22.size)
    have d20_23 := d20_22.trans (b23.mono d20_22.size)
    have d21_23 := d21_22.trans (b23.mono d21_22.size)
    have d22_23 := b23
    go_wp2_with fail
    go_ret
    exact ⟨rfl, d0_23⟩
  · have htb : ((tr : Int) != 0) = true := bne_iff_ne.2 h0
    have hna : ¬ a < 0 := by omega
    have hda : decide (a < 0) = false := decide_eq_false hna
    have hnb : ¬ b < 0 := by omega
    have hdb : decide (b < 0) = false := decide_eq_false hnb
    have htq2 : a / b = tq := by rw [← htq, Int.tdiv_eq_ediv_of_nonneg h1]
    have htr2 : a % b = tr := by rw [← htr, Int.tmod_eq_emod_of_nonneg h1]
    have hk : tq * b = a - tr := by
      have := F3.out
      omega
    obtain ⟨kb, hkb⟩ : ∃ x, tq * b = x := ⟨_, rfl⟩
    rw [hkb] at hk
    have g4 := F4.out; have g5 := F5.out; have g6 := F6.out
    have gz := HZ.out
    have hfk : FloorRest (a - tq * b) b := by
      rw [hkb]
      unfold FloorRest
      omega
    have hqk : q = tq := floor_unique HQR.out HFR.out hfk
    have hrk : r = a - kb := by
      have := HQR.out
      rw [hqk, hkb] at this
      omega
    have hb3 : -9223372036854775808 ≤ kb ∧ kb ≤ 9223372036854775807 := by omega
    obtain ⟨hb31, hb32⟩ := hb3
    have hb4 : -9223372036854775808 ≤ a - kb ∧ a - kb ≤ 9223372036854775807 := by omega
    obtain ⟨hb41, hb42⟩ := hb4
    have HQK := hid hqk; have HRK := hid hrk
    clear hqk hrk hfk hk g4 g5 g6 gz h0
    go_wp2_with fail
    with_reducible refine (lawsmall_t nq2 HQK.out (by omega) (by omega)).mono ?_
    rintro e w21 ⟨rfl, b21⟩
    have d0_21 := d0_20.trans (b21.mono d0_20.size)
    have d1_21 := d1_20.trans (b21.mono d1_20.size)
    have d2_21 := d2_20.trans (b21.mono d2_20.size)
    have d3_21 := d3_20.trans (b21.mono d3_20.size)
    have d4_21 := d4_20.trans (b21.mono d4_20.size)
    have d5_21 := d5_20.trans (b21.mono d5_20.size)
    have d6_21 := d6_20.trans (b21.mono d6_20.size)
    have d7_21 := d7_20.trans (b21.mono d7_20.size)
    have d8_21 := d8_20.trans (b21.mono d8_20.size)
    have d9_21 := d9_20.trans (b21.mono d9_20.size)
    have d10_21 := d10_20.trans (b21.mono d10_20.size)
    have d11_21 := d11_20.trans (b21.mono d11_20.size)
    have d12_21 := d12_20.trans (b21.mono d12_20.size)
    have d13_21 := d13_20.trans (b21.mono d13_20.size)
    have d14_21 := d14_20.trans (b21.mono d14_20.size)
    have d15_21 := d15_20.trans (b21.mono d15_20.size)
    have d16_21 := d16_20.trans (b21.mono d16_20.size)
    have d17_21 := d17_20.trans (b21.mono d17_20.size)
    have d18_21 := d18_20.trans (b21.mono d18_20.size)
    have d19_21 := d19_20.trans (b21.mono d19_20.size)
    have d20_21 := b21
    obtain ⟨⟨y1, y2⟩, _, _⟩ := (x2.kept d20_21).facts2
    obtain ⟨⟨y3, y4⟩, _, _⟩ := (x3.kept d20_21).facts2
    go_wp2_with fail
    with_reducible refine (lawsmall_t (nr2.below d20_21) HRK.out hb41 hb42).mono ?_
    rintro e w22 ⟨rfl, b22⟩
    have d0_22 := d0_21.trans (b22.mono d0_21.size)
    have d1_22 := d1_21.trans (b22.mono d1_21.size)
    have d2_22 := d2_21.trans (b22.mono d2_21.size)
    have d3_22 := d3_21.trans (b22.mono d3_21.size)
    have d4_22 := d4_21.trans (b22.mono d4_21.size)
    have d5_22 := d5_21.trans (b22.mono d5_21.size)
    have d6_22 := d6_21.trans (b22.mono d6_21.size)
    have d7_22 := d7_21.trans (b22.mono d7_21.size)
    have d8_22 := d8_21.trans (b22.mono d8_21.size)
    have d9_22 := d9_21.trans (b22.mono d9_21.size)
    have d10_22 := d10_21.trans (b22.mono d10_21.size)
    have d11_22 := d11_21.trans (b22.mono d11_21.size)
    have d12_22 := d12_21.trans (b22.mono d12_21.size)
    have d13_22 := d13_21.trans (b22.mono d13_21.size)
    have d14_22 := d14_21.trans (b22.mono d14_21.size)
    have d15_22 := d15_21.trans (b22.mono d15_21.size)
    have d16_22 := d16_21.trans (b22.mono d16_21.size)
    have d17_22 := d17_21.trans (b22.mono d17_21.size)
    have d18_22 := d18_21.trans (b22.mono d18_21.size)
    have d19_22 := d19_21.trans (b22.mono d19_21.size)
    have d20_22 := d20_21.trans (b22.mono d20_21.size)
    have d21_22 := b22
    go_wp2_with fail
    with_reducible refine (wakes_any _).mono ?_
    rintro e w23 ⟨rfl, b23⟩
    have d0_23 := d0_22.trans (b23.mono d0_22.size)
    have d1_23 := d1_22.trans (b23.mono d1_22.size)
    have d2_23 := d2_22.trans (b23.mono d2_22.size)
    have d3_23 := d3_22.trans (b23.mono d3_22.size)
    have d4_23 := d4_22.trans (b23.mono d4_22.size)
    have d5_23 := d5_22.trans (b23.mono d5_22.size)
    have d6_23 := d6_22.trans (b23.mono d6_22.size)
    have d7_23 := d7_22.trans (b23.mono d7_22.size)
    have d8_23 := d8_22.trans (b23.mono d8_22.size)
    have d9_23 := d9_22.trans (b23.mono d9_22.size)
    have d10_23 := d10_22.trans (b23.mono d10_22.size)
    have d11_23 := d11_22.trans (b23.mono d11_22.size)
    have d12_23 := d12_22.trans (b23.mono d12_22.size)
    have d13_23 := d13_22.trans (b23.mono d13_22.size)
    have d14_23 := d14_22.trans (b23.mono d14_22.size)
    have d15_23 := d15_22.trans (b23.mono d15_22.size)
    have d16_23 := d16_22.trans (b23.mono d16_22.size)
    have d17_23 := d17_22.trans (b23.mono d17_22.size)
    have d18_23 := d18_22.trans (b23.mono d18_22.size)
    have d19_23 := d19_22.trans (b23.mono d19_22.size)
    have d20_23 := d20_22.trans (b23.mono d20_22.size)
    have d21_23 := d21_22.trans (b23.mono d21_22.size)
    have d22_23 := b23
    go_wp2_with fail
    go_ret
    exact ⟨rfl, d0_23⟩
  · have htb : ((tr : Int) != 0) = true := bne_iff_ne.2 h0
    have hda : decide (a < 0) = true := decide_eq_true h1
    have hnb : ¬ b < 0 := by omega
    have hdb : decide (b < 0) = false := decide_eq_false hnb
    have hk : (tq - 1) * b = a - tr - b := by
      have := F3.out
      rw [Int.sub_mul, Int.one_mul]
      omega
    obtain ⟨kb, hkb⟩ : ∃ x, (tq - 1) * b = x := ⟨_, rfl⟩
    rw [hkb] at hk
    have g4 := F4.out; have g5 := F5.out; have g6 := F6.out
    have gz := HZ.out
    have hfk : FloorRest (a - (tq - 1) * b) b := by
      rw [hkb]
      unfold FloorRest
      omega
    have hqk : q = (tq - 1) := floor_unique HQR.out HFR.out hfk
    have hrk : r = a - kb := by
      have := HQR.out
      rw [hqk, hkb] at this
      omega
    have hb3 : -9223372036854775808 ≤ kb ∧ kb ≤ 9223372036854775807 := by omega
    obtain ⟨hb31, hb32⟩ := hb3
    have hb4 : -9223372036854775808 ≤ a - kb ∧ a - kb ≤ 9223372036854775807 := by omega
    obtain ⟨hb41, hb42⟩ := hb4
    have HQK := hid hqk; have HRK := hid hrk
    clear hqk hrk hfk hk g4 g5 g6 gz h0
    go_wp2_with fail
    with_reducible refine (lawsmall_t nq2 HQK.out (by omega) (by omega)).mono ?_
    rintro e w21 ⟨rfl, b21⟩
    have d0_21 := d0_20.trans (b21.mono d0_20.size)
    have d1_21 := d1_20.trans (b21.mono d1_20.size)
    have d2_21 := d2_20.trans (b21.mono d2_20.size)
    have d3_21 := d3_20.trans (b21.mono d3_20.size)
    have d4_21 := d4_20.trans (b21.mono d4_20.size)
    have d5_21 := d5_20.trans (b21.mono d5_20.size)
    have d6_21 := d6_20.trans (b21.mono d6_20.size)
    have d7_21 := d7_20.trans (b21.mono d7_20.size)
    have d8_21 := d8_20.trans (b21.mono d8_20.size)
    have d9_21 := d9_20.trans (b21.mono d9_20.size)
    have d10_21 := d10_20.trans (b21.mono d10_20.size)
    have d11_21 := d11_20.trans (b21.mono d11_20.size)
    have d12_21 := d12_20.trans (b21.mono d12_20.size)
    have d13_21 := d13_20.trans (b21.mono d13_20.size)
    have d14_21 := d14_20.trans (b21.mono d14_20.size)
    have d15_21 := d15_20.trans (b21.mono d15_20.size)
    have d16_21 := d16_20.trans (b21.mono d16_20.size)
    have d17_21 := d17_20.trans (b21.mono d17_20.size)
    have d18_21 := d18_20.trans (b21.mono d18_20.size)
    have d19_21 := d19_20.trans (b21.mono d19_20.size)
    have d20_21 := b21
    obtain ⟨⟨y1, y2⟩, _, _⟩ := (x2.kept d20_21).facts2
    obtain ⟨⟨y3, y4⟩, _, _⟩ := (x3.kept d20_21).facts2
    go_wp2_with fail
    with_reducible refine (lawsmall_t (nr2.below d20_21) HRK.out hb41 hb42).mono ?_
    rintro e w22 ⟨rfl, b22⟩
    have d0_22 := d0_21.trans (b22.mono d0_21.size)
    have d1_22 := d1_21.trans (b22.mono d1_21.size)
    have d2_22 := d2_21.trans (b22.mono d2_21.size)
    have d3_22 := d3_21.trans (b22.mono d3_21.size)
    have d4_22 := d4_21.trans (b22.mono d4_21.size)
    have d5_22 := d5_21.trans (b22.mono d5_21.size)
    have d6_22 := d6_21.trans (b22.mono d6_21.size)
    have d7_22 := d7_21.trans (b22.mono d7_21.size)
    have d8_22 := d8_21.trans (b22.mono d8_21.size)
    have d9_22 := d9_21.trans (b22.mono d9_21.size)
    have d10_22 := d10_21.trans (b22.mono d10_21.size)
    have d11_22 := d11_21.trans (b22.mono d11_21.size)
    have d12_22 := d12_21.trans (b22.mono d12_21.size)
    have d13_22 := d13_21.trans (b22.mono d13_21.size)
    have d14_22 := d14_21.trans (b22.mono d14_21.size)
    have d15_22 := d15_21.trans (b22.mono d15_21.size)
    have d16_22 := d16_21.trans (b22.mono d16_21.size)
    have d17_22 := d17_21.trans (b22.mono d17_21.size)
    have d18_22 := d18_21.trans (b22.mono d18_21.size)
    have d19_22 := d19_21.trans (b22.mono d19_21.size)
    have d20_22 := d20_21.trans (b22.mono d20_21.size)
    have d21_22 := b22
    go_wp2_with fail
    with_reducible refine (wakes_any _).mono ?_
    rintro e w23 ⟨rfl, b23⟩
    have d0_23 := d0_22.trans (b23.mono d0_22.size)
    have d1_23 := d1_22.trans (b23.mono d1_22.size)
    have d2_23 := d2_22.trans (b23.mono d2_22.size)
    have d3_23 := d3_22.trans (b23.mono d3_22.size)
    have d4_23 := d4_22.trans (b23.mono d4_22.size)
    have d5_23 := d5_22.trans (b23.mono d5_22.size)
    have d6_23 := d6_22.trans (b23.mono d6_22.size)
    have d7_23 := d7_22.trans (b23.mono d7_22.size)
    have d8_23 := d8_22.trans (b23.mono d8_22.size)
    have d9_23 := d9_22.trans (b23.mono d9_22.size)
    have d10_23 := d10_22.trans (b23.mono d10_22.size)
    have d11_23 := d11_22.trans (b23.mono d11_22.size)
    have d12_23 := d12_22.trans (b23.mono d12_22.size)
    have d13_23 := d13_22.trans (b23.mono d13_22.size)
    have d14_23 := d14_22.trans (b23.mono d14_22.size)
    have d15_23 := d15_22.trans (b23.mono d15_22.size)
    have d16_23 := d16_22.trans (b23.mono d16_22.size)
    have d17_23 := d17_22.trans (b23.mono d17_22.size)
    have d18_23 := d18_22.trans (b23.mono d18_22.size)
    have d19_23 := d19_22.trans (b23.mono d19_22.size)
    have d20_23 := d20_22.trans (b23.mono d20_22.size)
    have d21_23 := d21_22.trans (b23.mono d21_22.size)
    have d22_23 := b23
    go_wp2_with fail
    go_ret
    exact ⟨rfl, d0_23⟩
  · have htb : ((tr : Int) != 0) = true := bne_iff_ne.2 h0
    have hna : ¬ a < 0 := by omega
    have hda : decide (a < 0) = false := decide_eq_false hna
    have hdb : decide (b < 0) = true := decide_eq_true h2
    have hk : (tq - 1) * b = a - tr - b := by
      have := F3.out
      rw [Int.sub_mul, Int.one_mul]
      omega
    obtain ⟨kb, hkb⟩ : ∃ x, (tq - 1) * b = x := ⟨_, rfl⟩
    rw [hkb] at hk
    have g4 := F4.out; have g5 := F5.out; have g6 := F6.out
    have gz := HZ.out
    have hfk : FloorRest (a - (tq - 1) * b) b := by
      rw [hkb]
      unfold FloorRest
      omega
    have hqk : q = (tq - 1) := floor_unique HQR.out HFR.out hfk
    have hrk : r = a - kb := by
      have := HQR.out
      rw [hqk, hkb] at this
      omega
    have hb3 : -9223372036854775808 ≤ kb ∧ kb ≤ 9223372036854775807 := by omega
    obtain ⟨hb31, hb32⟩ := hb3
    have hb4 : -9223372036854775808 ≤ a - kb ∧ a - kb ≤ 9223372036854775807 := by omega
    obtain ⟨hb41, hb42⟩ := hb4
    have HQK := hid hqk; have HRK := hid hrk
    clear hqk hrk hfk hk g4 g5 g6 gz h0
    go_wp2_with fail
    with_reducible refine (lawsmall_t nq2 HQK.out (by omega) (by omega)).mono ?_
    rintro e w21 ⟨rfl, b21⟩
    have d0_21 := d0_20.trans (b21.mono d0_20.size)
    have d1_21 := d1_20.trans (b21.mono d1_20.size)
    have d2_21 := d2_20.trans (b21.mono d2_20.size)
    have d3_21 := d3_20.trans (b21.mono d3_20.size)
    have d4_21 := d4_20.trans (b21.mono d4_20.size)
    have d5_21 := d5_20.trans (b21.mono d5_20.size)
    have d6_21 := d6_20.trans (b21.mono d6_20.size)
    have d7_21 := d7_20.trans (b21.mono d7_20.size)
    have d8_21 := d8_20.trans (b21.mono d8_20.size)
    have d9_21 := d9_20.trans (b21.mono d9_20.size)
    have d10_21 := d10_20.trans (b21.mono d10_20.size)
    have d11_21 := d11_20.trans (b21.mono d11_20.size)
    have d12_21 := d12_20.trans (b21.mono d12_20.size)
    have d13_21 := d13_20.trans (b21.mono d13_20.size)
    have d14_21 := d14_20.trans (b21.mono d14_20.size)
    have d15_21 := d15_20.trans (b21.mono d15_20.size)
    have d16_21 := d16_20.trans (b21.mono d16_20.size)
    have d17_21 := d17_20.trans (b21.mono d17_20.size)
    have d18_21 := d18_20.trans (b21.mono d18_20.size)
    have d19_21 := d19_20.trans (b21.mono d19_20.size)
    have d20_21 := b21
    obtain ⟨⟨y1, y2⟩, _, _⟩ := (x2.kept d20_21).facts2
    obtain ⟨⟨y3, y4⟩, _, _⟩ := (x3.kept d20_21).facts2
    go_wp2_with fail
    with_reducible refine (lawsmall_t (nr2.below d20_21) HRK.out hb41 hb42).mono ?_
    rintro e w22 ⟨rfl, b22⟩
    have d0_22 := d0_21.trans (b22.mono d0_21.size)
    have d1_22 := d1_21.trans (b22.mono d1_21.size)
    have d2_22 := d2_21.trans (b22.mono d2_21.size)
    have d3_22 := d3_21.trans (b22.mono d3_21.size)
    have d4_22 := d4_21.trans (b22.mono d4_21.size)
    have d5_22 := d5_21.trans (b22.mono d5_21.size)
    have d6_22 := d6_21.trans (b22.mono d6_21.size)
    have d7_22 := d7_21.trans (b22.mono d7_21.size)
    have d8_22 := d8_21.trans (b22.mono d8_21.size)
    have d9_22 := d9_21.trans (b22.mono d9_21.size)
    have d10_22 := d10_21.trans (b22.mono d10_21.size)
    have d11_22 := d11_21.trans (b22.mono d11_21.size)
    have d12_22 := d12_21.trans (b22.mono d12_21.size)
    have d13_22 := d13_21.trans (b22.mono d13_21.size)
    have d14_22 := d14_21.trans (b22.mono d14_21.size)
    have d15_22 := d15_21.trans (b22.mono d15_21.size)
    have d16_22 := d16_21.trans (b22.mono d16_21.size)
    have d17_22 := d17_21.trans (b22.mono d17_21.size)
    have d18_22 := d18_21.trans (b22.mono d18_21.size)
    have d19_22 := d19_21.trans (b22.mono d19_21.size)
    have d20_22 := d20_21.trans (b22.mono d20_21.size)
    have d21_22 := b22
    go_wp2_with fail
    with_reducible refine (wakes_any _).mono ?_
    rintro e w23 ⟨rfl, b23⟩
    have d0_23 := d0_22.trans (b23.mono d0_22.size)
    have d1_23 := d1_22.trans (b23.mono d1_22.size)
    have d2_23 := d2_22.trans (b23.mono d2_22.size)
    have d3_23 := d3_22.trans (b23.mono d3_22.size)
    have d4_23 := d4_22.trans (b23.mono d4_22.size)
    have d5_23 := d5_22.trans (b23.mono d5_22.size)
    have d6_23 := d6_22.trans (b23.mono d6_22.size)
    have d7_23 := d7_22.trans (b23.mono d7_22.size)
    have d8_23 := d8_22.trans (b23.mono d8_22.size)
    have d9_23 := d9_22.trans (b23.mono d9_22.size)
    have d10_23 := d10_22.trans (b23.mono d10_22.size)
    have d11_23 := d11_22.trans (b23.mono d11_22.size)
    have d12_23 := d12_22.trans (b23.mono d12_22.size)
    have d13_23 := d13_22.trans (b23.mono d13_22.size)
    have d14_23 := d14_22.trans (b23.mono d14_22.size)
    have d15_23 := d15_22.trans (b23.mono d15_22.size)
    have d16_23 := d16_22.trans (b23.mono d16_22.size)
    have d17_23 := d17_22.trans (b23.mono d17_22.size)
    have d18_23 := d18_22.trans (b23.mono d18_22.size)
    have d19_23 := d19_22.trans (b23.mono d19_22.size)
    have d20_23 := d20_22.trans (b23.mono d20_22.size)
    have d21_23 := d21_22.trans (b23.mono d21_22.size)
    have d22_23 := b23
    go_wp2_with fail
    go_ret
    exact ⟨rfl, d0_23⟩

theorem sintsmall_any (n a b : Int) (w : World) (hn : -9223372036854775808 ≤ n ∧ n ≤ 9223372036854775807) (_ha : -9223372036854775808 ≤ a ∧ a ≤ 9223372036854775807) (_hb : -9223372036854775808 ≤ b ∧ b ≤ 9223372036854775807) :
    Calls Try.prog 6 #[.int .i64 n, .int .i64 a, .int .i64 b] w fun e w' => e = .returned (.bool true) ∧ Below w.heap.size w w' := by
  by_cases h : (-1073741824 ≤ a ∧ a ≤ 1073741824) ∧ (-1073741824 ≤ b ∧ b ≤ 1073741824)
  · by_cases h0 : b = 0
    · exact sintsmall_zero n a b w hn h.1 h.2 h0
    · exact sintsmall_pos n a b w hn h.1 h.2 h0
  · exact sintsmall_out n a b w hn (by omega)
end Go.Proofs.Wd

namespace Go.Proofs.Wd
open Go.RowKit Lb

theorem r5neg_v {W : World} {m : Nat} {v : Value} {k : Int} (h : UV W m v k) (hm : m ≤ 90000) : Calls Try.prog 33 #[v] W (RetV W (-k)) := by
  obtain ⟨s, A, n, c, l, rfl, h1, h2, h3, rfl⟩ := h
  exact (r5neg_any s A n c l W h1 h2 (by omega)).mono fun _ _ => RetInt.v
theorem r5norm_w {W : World} {m : Nat} {v : Value} {k : Int} (h : UV W m v k) (hm : m ≤ 90000) : Calls Try.prog 16 #[v] W (RetV W k) := by
  obtain ⟨s, A, n, c, l, rfl, h1, h2, h3, rfl⟩ := h
  exact (r5norm_any s A n c l W h1 h2 (by omega)).mono fun _ _ => RetInt.v
theorem r5sign_v {W : World} {m : Nat} {v : Value} {k : Int} (h : UV W m v k) (hm : m ≤ 90000) : Calls Try.prog 11 #[v] W fun e w' => e = .returned (.int .i64 k.sign) ∧ Below W.heap.size W w' := by
  obtain ⟨s, A, n, c, l, rfl, h1, h2, h3, rfl⟩ := h
  exact r5sign_any s A n c l W h1 h2 (by omega)
theorem r5sub_v {W : World} {m : Nat} {v v' : Value} {k k' : Int} (h : UV W m v k) (h' : UV W m v' k') (hm : m ≤ 90000) : Calls Try.prog 34 #[v, v'] W (RetV W (k - k')) := by
  obtain ⟨s, A, n, c, l, rfl, h1, h2, h3, rfl⟩ := h
  obtain ⟨s', A', n', c', l', rfl, h1', h2', h3', rfl⟩ := h'
  exact (r5sub_any s A n c l s' A' n' c' l' W h1 h2 h1' h2' m h3 h3' hm).mono fun _ _ => RetInt.v
theorem r5cmp_v {W : World} {m : Nat} {v v' : Value} {k k' : Int} (h : UV W m v k) (h' : UV W m v' k') (hm : m ≤ 90000) : Calls Try.prog 30 #[v, v'] W fun e w' => e = .returned (.int .i64 (k - k').sign) ∧ Below W.heap.size W w' := by
  obtain ⟨s, A, n, c, l, rfl, h1, h2, h3, rfl⟩ := h
  obtain ⟨s', A', n', c', l', rfl, h1', h2', h3', rfl⟩ := h'
  exact r5cmp_any s A n c l s' A' n' c' l' W h1 h2 h1' h2' m h3 h3' hm
theorem r5same_v {W : World} {m : Nat} {v v' : Value} {k k' : Int} (h : UV W m v k) (h' : UV W m v' k') (hm : m ≤ 90000) : Calls Try.prog 31 #[v, v'] W fun e w' => e = .returned (.bool ((k - k').sign == 0)) ∧ Below W.heap.size W w' := by
  obtain ⟨s, A, n, c, l, rfl, h1, h2, h3, rfl⟩ := h
  obtain ⟨s', A', n', c', l', rfl, h1', h2', h3', rfl⟩ := h'
  exact r5same_any s A n c l s' A' n' c' l' W h1 h2 h1' h2' m h3 h3' hm
theorem r5of_v {W : World} (k : Int) (h : -9223372036854775808 ≤ k ∧ k ≤ 9223372036854775807) : Calls Try.prog 32 #[.int .i64 k] W (RetV W k) :=
  (r5of_any k h.1 h.2 W).mono fun _ _ => RetInt.v
theorem ssmall_v {W : World} {m : Nat} {v : Value} {k : Int} (h : UV W m v k) (hm : m ≤ 90000) : Calls Try.prog 26 #[v] W fun e w' => e = .returned (.tuple #[.int .i64 (smI k), .bool (okI k)]) ∧ Below W.heap.size W w' := by
  obtain ⟨s, A, n, c, l, rfl, h1, h2, h3, h4⟩ := h
  exact ssmall_any s A n c l W k h1 h2 (by omega) h4
theorem r5small_v {W : World} {m : Nat} {v : Value} {k : Int} (h : UV W m v k) (hm : m ≤ 90000) : Calls Try.prog 28 #[v] W fun e w' => e = .returned (.tuple #[.int .i64 (smI k), .bool (okI k)]) ∧ Below W.heap.size W w' := by
  obtain ⟨s, A, n, c, l, rfl, h1, h2, h3, h4⟩ := h
  exact r5small_any s A n c l W k h1 h2 (by omega) h4
theorem r5add_w {W : World} {m : Nat} {v : Value} {ks : List Int} {k : Int} (h : ISV W m v ks) (hm : m ≤ 1000) (hn : ks.length ≤ 1000) (hk : ks.sum = k) : Calls Try.prog 14 #[v] W (RetV W k) := by
  obtain ⟨is, h1, h2⟩ := h
  have hl : is.length = ks.length := by rw [← h2, List.length_map]
  obtain ⟨A, c, e, h3, h4, h5⟩ := h1
  have hb : ∀ j, j ≤ is.length → (isum is j).natAbs < BB ^ (m + 1000) := by
    intro j hj
    have key : ∀ j, Bd (isum is j) (m + j) := by
      intro j
      induction j with
      | zero => exact Nat.pow_pos BB_pos
      | succ j ih =>
        have e1 : isum is (j + 1) = isum is j + ivAt is j := rfl
        rw [e1]
        exact (ih.add ((show Bd (ivAt is j) m from ivAt_lt h5 j).mono (by omega))).mono (by omega)
    exact (key j).mono (by omega)
  have := r5add_v (m + 1000) (⟨A, c, e, h3, h4, h5⟩ : IS W m v is) (by omega) (by omega) (by omega) hb
  rw [isum_take is is.length (Nat.le_refl _), List.take_length, h2, hk] at this
  exact this
theorem r5mul_w {W : World} {m : Nat} {v : Value} {ks : List Int} {k : Int} (h : ISV W m v ks) (hn : m * ks.length + m + 1 ≤ 40000) (hk : ks.foldl (· * ·) 1 = k) (hl : ks.length ≤ 1000) : Calls Try.prog 15 #[v] W (RetV W k) := by
  obtain ⟨is, h1, h2⟩ := h
  have hl2 : is.length = ks.length := by rw [← h2, List.length_map]
  obtain ⟨A, c, e, h3, h4, h5⟩ := h1
  have := r5mul_v (m * ks.length + m + 1) (⟨A, c, e, h3, h4, h5⟩ : IS W m v is) (by omega) (by omega) (by omega) (fun k hk => (iprod_bd h5 k).mono (by
    have : m * k ≤ m * ks.length := Nat.mul_le_mul_left _ (by omega)
    omega))
  rw [iprod_take is is.length (Nat.le_refl _), List.take_length, h2, hk] at this
  exact this

/-- A division's answer, told: quotient, rest, error number. -/
def RetQ (w : World) (q r e : Int) : Ending → World → Prop := fun en w' => ∃ v1 v2, en = .returned (.tuple #[v1, v2, .int .i64 e]) ∧ NV w' v1 q ∧ NV w' v2 r ∧ Below w.heap.size w w'
theorem NV.empty (W : World) : NV W (.agg #[.bool false, .slice none 0 0]) 0 := ⟨none, 0, 0, [], rfl, Is.nil, Rd.nil_ W⟩
/-- The one floor quotient. -/
theorem floor_one {a b q r q' r' : Int} (h : a = q * b + r) (hf : FloorRest r b) (h' : a = q' * b + r') (hf' : FloorRest r' b) : q = q' ∧ r = r' := by
  have e1 : q = q' := floor_unique h hf (by rw [show a - q' * b = r' from by omega]; exact hf')
  subst e1
  exact ⟨rfl, by omega⟩
theorem RetDV.q {W : World} {a b q r : Int} (h : a = q * b + r) (hf : FloorRest r b) {e : Ending} {w' : World} (hd : RetDV W a b e w') : RetQ W q r 0 e w' := by
  obtain ⟨q', r', v1, v2, rfl, h1, h2, h3, h4, hb⟩ := hd
  obtain ⟨rfl, rfl⟩ := floor_one h hf h1 h2
  exact ⟨v1, v2, rfl, h3, h4, hb⟩
end Go.Proofs.Wd
