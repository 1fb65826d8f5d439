/- Trailing noughts, odd parts, greatest common divisors: plain arithmetic. -/
namespace Lb
/-- x is 2 to the power of k times an odd number. -/
def TZ (x k : Nat) : Prop := ∃ m, x = 2 ^ k * (2 * m + 1)

theorem TZ.pos {x k : Nat} (h : TZ x k) : 0 < x := by
  obtain ⟨m, rfl⟩ := h
  exact Nat.mul_pos (Nat.pow_pos (by omega)) (by omega)
theorem TZ.le {x k : Nat} (h : TZ x k) : 2 ^ k ≤ x := by
  obtain ⟨m, rfl⟩ := h
  exact Nat.le_mul_of_pos_right _ (by omega)
theorem TZ.lt {x k n : Nat} (h : TZ x k) (hx : x < 2 ^ n) : k < n :=
  (Nat.pow_lt_pow_iff_right (by decide)).1 (Nat.lt_of_le_of_lt h.le hx)
theorem TZ.odd {x : Nat} (h : x % 2 = 1) : TZ x 0 := ⟨x / 2, by omega⟩
theorem TZ.double {x k : Nat} (h : TZ x k) : TZ (2 * x) (k + 1) := by
  obtain ⟨m, rfl⟩ := h
  exact ⟨m, by rw [Nat.pow_succ, Nat.mul_comm (2 ^ k) 2, Nat.mul_assoc]⟩
theorem TZ.half {x k : Nat} (h : TZ (x / 2) k) (h2 : x % 2 = 0) : TZ x (k + 1) := by
  have := h.double
  rwa [show 2 * (x / 2) = x from by omega] at this
theorem TZ.exists : ∀ x : Nat, 0 < x → ∃ k, TZ x k := by
  intro x
  induction x using Nat.strongRecOn with
  | _ x ih =>
    intro h
    by_cases e : x % 2 = 0
    · obtain ⟨k, hk⟩ := ih (x / 2) (by omega) (by omega)
      exact ⟨k + 1, hk.half e⟩
    · exact ⟨0, TZ.odd (by omega)⟩
/-- Its odd part. -/
theorem TZ.part {x k : Nat} (h : TZ x k) : x = 2 ^ k * (x / 2 ^ k) ∧ (x / 2 ^ k) % 2 = 1 := by
  obtain ⟨m, rfl⟩ := h
  rw [Nat.mul_div_cancel_left _ (Nat.pow_pos (by omega))]
  exact ⟨rfl, by omega⟩
theorem TZ.scale {x k : Nat} (i : Nat) (h : TZ x k) : TZ (2 ^ i * x) (i + k) := by
  obtain ⟨m, rfl⟩ := h
  exact ⟨m, by rw [Nat.pow_add, Nat.mul_assoc]⟩
theorem TZ.mod {x k : Nat} (h : TZ x k) (i : Nat) (hi : i < k) : x / 2 ^ i % 2 = 0 := by
  obtain ⟨m, rfl⟩ := h
  rw [show 2 ^ k = 2 ^ i * (2 * 2 ^ (k - i - 1)) from by rw [← Nat.pow_succ', ← Nat.pow_add]; congr 1; omega, Nat.mul_assoc, Nat.mul_div_cancel_left _ (Nat.pow_pos (by omega)), Nat.mul_assoc]
  omega
theorem TZ.unique {x i j : Nat} (h : TZ x i) (h' : TZ x j) : i = j := by
  rcases Nat.lt_trichotomy i j with e | e | e
  · have := h'.mod i e; have := h.part.2; omega
  · exact e
  · have := h.mod j e; have := h'.part.2; omega

theorem gcd_odds {a b i j : Nat} (ha : a % 2 = 1) (hb : b % 2 = 1) : Nat.gcd (2 ^ i * a) (2 ^ j * b) = 2 ^ min i j * Nat.gcd a b := by
  have cop : ∀ x d : Nat, x % 2 = 1 → Nat.Coprime x (2 ^ d) := fun x d h => by
    refine Nat.Coprime.pow_right d ?_
    rw [Nat.coprime_comm]
    have h1 : Nat.gcd 2 x ∣ 2 := Nat.gcd_dvd_left 2 x
    have h2 : Nat.gcd 2 x ∣ x := Nat.gcd_dvd_right 2 x
    have h3 : Nat.gcd 2 x ≤ 2 := Nat.le_of_dvd (by omega) h1
    have h4 : Nat.gcd 2 x ≠ 2 := fun e => by rw [e] at h2; omega
    have h5 : 0 < Nat.gcd 2 x := Nat.pos_of_dvd_of_pos h1 (by omega)
    show Nat.gcd 2 x = 1
    omega
  rcases Nat.le_total i j with h | h
  · rw [Nat.min_eq_left h, show 2 ^ j = 2 ^ i * 2 ^ (j - i) from by rw [← Nat.pow_add]; congr 1; omega, Nat.mul_assoc, Nat.gcd_mul_left, Nat.Coprime.gcd_mul_left_cancel_right b (Nat.coprime_comm.1 (cop a _ ha))]
  · rw [Nat.min_eq_right h, show 2 ^ i = 2 ^ j * 2 ^ (i - j) from by rw [← Nat.pow_add]; congr 1; omega, Nat.mul_assoc, Nat.gcd_mul_left, Nat.gcd_comm, Nat.Coprime.gcd_mul_left_cancel_right a (Nat.coprime_comm.1 (cop b _ hb)), Nat.gcd_comm]
theorem TZ.gcd {a b i j : Nat} (h : TZ a i) (h' : TZ b j) : Nat.gcd a b = 2 ^ min i j * Nat.gcd (a / 2 ^ i) (b / 2 ^ j) := by
  have e1 := h.part; have e2 := h'.part
  rw [← gcd_odds e1.2 e2.2, ← e1.1, ← e2.1]
theorem TZ.gcd_odd {a b j : Nat} (ha : a % 2 = 1) (h' : TZ b j) : Nat.gcd a (b / 2 ^ j) = Nat.gcd a b := by
  have := (TZ.odd ha).gcd h'
  simp at this
  exact this.symm
theorem gcd_less {a b : Nat} (h : b ≤ a) : Nat.gcd (a - b) b = Nat.gcd a b := by
  rw [show Nat.gcd a b = Nat.gcd ((a - b) + b) b from by rw [Nat.sub_add_cancel h]]
  simp
theorem TZ.or {a b i j : Nat} (h : TZ a i) (h' : TZ b j) : TZ (a ||| b) (min i j) := by
  have e1 := h.part; have e2 := h'.part
  have key : ∀ x y d : Nat, x % 2 = 1 → TZ (x ||| (2 ^ d * y)) 0 := fun x y d hx => by
    refine TZ.odd ?_
    have : (x ||| 2 ^ d * y) % 2 = x % 2 ||| (2 ^ d * y) % 2 := Nat.or_mod_two_pow (n := 1)
    rw [this, hx]
    have : (2 ^ d * y) % 2 < 2 := Nat.mod_lt _ (by omega)
    rcases (by omega : (2 ^ d * y) % 2 = 0 ∨ (2 ^ d * y) % 2 = 1) with e | e <;> rw [e] <;> rfl
  have shl : ∀ x y n : Nat, 2 ^ n * x ||| 2 ^ n * y = 2 ^ n * (x ||| y) := fun x y n => by
    rw [Nat.mul_comm _ x, Nat.mul_comm _ y, Nat.mul_comm _ (x ||| y), ← Nat.shiftLeft_eq, ← Nat.shiftLeft_eq, ← Nat.shiftLeft_eq, Nat.shiftLeft_or_distrib]
  rcases Nat.le_total i j with hij | hij
  · rw [Nat.min_eq_left hij]
    have := (key (a / 2 ^ i) (b / 2 ^ j) (j - i) e1.2).scale i
    rw [← shl, ← Nat.mul_assoc, ← Nat.pow_add, Nat.add_sub_cancel' hij, ← e1.1, ← e2.1] at this
    simpa using this
  · rw [Nat.min_eq_right hij]
    have := (key (b / 2 ^ j) (a / 2 ^ i) (i - j) e2.2).scale j
    rw [← shl, ← Nat.mul_assoc, ← Nat.pow_add, Nat.add_sub_cancel' hij, ← e1.1, ← e2.1, Nat.or_comm] at this
    simpa using this

end Lb
