/- Plain facts of long division: one digit's guess, what is taken away and put back, shifts. -/
import Derived.Test.YtghgemeclgpibaaDoorFloor
import Derived.Test.YtghgemeclgpibaaDoorMath
namespace Go.Proofs.Wd
open Lb

/-- One place of 'less'. -/
theorem less_math {so sn t sb x over under old z lo over' under' P : Nat} (h : so + (over + under) * P = sn + t * sb) (hlo : x * t + over = lo + over' * 4294967296) (hz : old + under' * 4294967296 = z + lo + under) :
    so + old * P + (over' + under') * (P * 4294967296) = sn + z * P + t * (sb + x * P) := by
  have e1 : old * P + under' * 4294967296 * P = z * P + lo * P + under * P := by rw [← Nat.add_mul, hz, Nat.add_mul, Nat.add_mul]
  have e2 : x * t * P + over * P = lo * P + over' * 4294967296 * P := by rw [← Nat.add_mul, hlo, Nat.add_mul]
  have e3 : (over' + under') * (P * 4294967296) = over' * 4294967296 * P + under' * 4294967296 * P := by
    rw [Nat.add_mul, Nat.mul_comm P, ← Nat.mul_assoc, ← Nat.mul_assoc]
  have e4 : t * (sb + x * P) = t * sb + x * t * P := by rw [Nat.mul_add, ← Nat.mul_assoc, Nat.mul_comm t x]
  have e5 : (over + under) * P = over * P + under * P := Nat.add_mul _ _ _
  rw [e3, e4]
  rw [e5] at h
  omega
/-- One place of 'more'. -/
theorem more_math {so sn sb x over old z over' P : Nat} (h : sn + over * P = so + sb) (hz : over + x + old = z + over' * 4294967296) :
    sn + z * P + over' * (P * 4294967296) = so + old * P + (sb + x * P) := by
  have e1 : over * P + x * P + old * P = z * P + over' * 4294967296 * P := by rw [← Nat.add_mul, ← Nat.add_mul, hz, Nat.add_mul]
  have e3 : over' * (P * 4294967296) = over' * 4294967296 * P := by rw [Nat.mul_comm P, ← Nat.mul_assoc]
  rw [e3]
  omega

/-- The numbers of one place of 'less'. -/
theorem less_step (x t over old under : Nat) (hx : x < 4294967296) (ht : t < 4294967296) (ho : over < 4294967296) (hold : old < 4294967296) (hu : under ≤ 1) :
    ∃ p s lo over' z under' : Nat, x * t = p ∧ p < 18446744073709551616 ∧ p + over = s ∧ s < 18446744073709551616 ∧ s % 4294967296 = lo ∧ s / 4294967296 = over' ∧ over' < 4294967296 ∧ lo < 4294967296 ∧
      (((old : Int) - (lo : Int) - (under : Int)) % 18446744073709551616) % 4294967296 = (z : Int) ∧ (((old : Int) - (lo : Int) - (under : Int)) % 18446744073709551616) / 9223372036854775808 = (under' : Int) ∧ z < 4294967296 ∧ under' ≤ 1 ∧
      x * t + over = lo + over' * 4294967296 ∧ old + under' * 4294967296 = z + lo + under ∧ (x = 0 → over' = 0) := by
  have h1 : x * t ≤ 4294967295 * 4294967295 := Nat.mul_le_mul (by omega) (by omega)
  refine ⟨x * t, x * t + over, (x * t + over) % 4294967296, (x * t + over) / 4294967296, ?_, if old < (x * t + over) % 4294967296 + under then 1 else 0, rfl, by omega, rfl, by omega, rfl, rfl, by omega, by omega, ?_⟩
  case refine_1 => exact (((old : Int) - ((x * t + over) % 4294967296 : Nat) - (under : Int)) % 18446744073709551616 % 4294967296).toNat
  have hl : (x * t + over) % 4294967296 < 4294967296 := by omega
  have hz0 : x = 0 → (x * t + over) / 4294967296 = 0 := fun e => by subst e; omega
  refine ⟨by omega, ?_, by omega, by split <;> omega, by omega, ?_, hz0⟩
  · split <;> omega
  · split <;> omega
theorem more_step (over x old : Nat) (ho : over ≤ 1) (hx : x < 4294967296) (hold : old < 4294967296) :
    ∃ s z over' : Nat, over + x + old = s ∧ s < 18446744073709551616 ∧ (s : Int) % 4294967296 = (z : Int) ∧ (s : Int) / 4294967296 = (over' : Int) ∧ z < 4294967296 ∧ over' ≤ 1 ∧ over + x + old = z + over' * 4294967296 :=
  ⟨over + x + old, (over + x + old) % 4294967296, (over + x + old) / 4294967296, rfl, by omega, by omega, by omega, by omega, by omega, by omega⟩

/-- What 'less' answers at once. -/
theorem digit_fits {P V q N T : Nat} (hg : P / V ≤ q) (hV : 0 < V) (h : P + 0 * T = N + q * V) : q = P / V ∧ N = P % V := by
  have h1 : q * V ≤ P := by omega
  have h2 : q ≤ P / V := (Nat.le_div_iff_mul_le hV).2 h1
  have h3 : q = P / V := by omega
  subst h3
  refine ⟨rfl, ?_⟩
  have := Nat.div_add_mod P V
  rw [Nat.mul_comm] at this
  omega
/-- It did not fit: too great. -/
theorem digit_over {P V q N T : Nat} (hV : 0 < V) (hN : N < T) (h : P + T = N + q * V) : P / V < q ∧ 0 < q := by
  have h1 : P < q * V := by omega
  exact ⟨(Nat.div_lt_iff_lt_mul hV).2 h1, by
    rcases Nat.eq_zero_or_pos q with e | e
    · subst e; rw [Nat.zero_mul] at h1; omega
    · exact e⟩
/-- Put back once, and more is to be put back. -/
theorem digit_more {P V q N N' T : Nat} (hq : 0 < q) (h : P + T = N + q * V) (hm : N' + 0 * T = N + V) : P + T = N' + (q - 1) * V := by
  obtain ⟨k, rfl⟩ : ∃ k, q = k + 1 := ⟨q - 1, by omega⟩
  rw [Nat.add_mul, Nat.one_mul] at h
  rw [Nat.add_sub_cancel]
  omega
/-- Put back once, and that was enough. -/
theorem digit_done {P V q N N' T : Nat} (hV : 0 < V) (hq : P / V < q) (h : P + T = N + q * V) (hm : N' + 1 * T = N + V) : q - 1 = P / V ∧ N' = P % V := by
  obtain ⟨k, rfl⟩ : ∃ k, q = k + 1 := ⟨q - 1, (Nat.sub_add_cancel (Nat.one_le_of_lt hq)).symm⟩
  rw [Nat.add_mul, Nat.one_mul] at h
  rw [Nat.add_sub_cancel]
  exact digit_fits (T := T) (Nat.lt_succ_iff.1 hq) hV (by omega)

/-- The guess is not too small. -/
theorem guess_math {P V top v1 Q : Nat} (hv : 0 < v1) (hP : P < (top + 1) * Q) (hV : v1 * Q ≤ V) : P / V ≤ top / v1 := by
  rcases Nat.eq_zero_or_pos Q with e | hQ
  · subst e; omega
  rw [Nat.le_div_iff_mul_le hv]
  have h1 : P / V * (v1 * Q) ≤ P / V * V := Nat.mul_le_mul_left _ hV
  have h2 : P / V * V ≤ P := Nat.div_mul_le_self _ _
  have h3 : P / V * v1 * Q < (top + 1) * Q := by rw [Nat.mul_assoc]; omega
  have h4 : P / V * v1 < top + 1 := Nat.lt_of_mul_lt_mul_right h3
  omega
theorem guess_cap {P V : Nat} (h : P < V * 4294967296) : P / V ≤ 4294967295 := by
  have : P / V < 4294967296 := Nat.div_lt_of_lt_mul h
  omega


/-- A digit put before. -/
theorem long_math {x R V Q A : Nat} (h : A = V * Q + R) : x + BB * A = V * ((x + BB * R) / V + BB * Q) + (x + BB * R) % V := by
  have := Nat.div_add_mod (x + BB * R) V
  rw [h, Nat.mul_add V, ← Nat.mul_assoc V BB Q, Nat.mul_comm V BB, Nat.mul_add BB, ← Nat.mul_assoc]
  omega

/-- One limb on of 'Up'. -/
theorem up_math {lo low so n z low' s P : Nat} (h : lo + low * P = s * so) (hz : n * s + low = z + low' * 4294967296) : lo + z * P + low' * (P * 4294967296) = s * (so + n * P) := by
  have e1 : n * s * P + low * P = z * P + low' * 4294967296 * P := by rw [← Nat.add_mul, hz, Nat.add_mul]
  have e2 : s * (so + n * P) = s * so + n * s * P := by rw [Nat.mul_add, ← Nat.mul_assoc, Nat.mul_comm s n]
  have e3 : low' * (P * 4294967296) = low' * 4294967296 * P := by rw [Nat.mul_comm P, ← Nat.mul_assoc]
  rw [e2, e3]
  omega
/-- One limb on of 'Down'. -/
theorem down_math {so x y f c sf s P : Nat} (h : so + x % s * P = s * sf + c) (hf : s * f = (x - x % s) + 4294967296 * y) : so + x * P + y * (P * 4294967296) = s * (sf + f * P) + c := by
  have e1 : s * (sf + f * P) = s * sf + (x - x % s) * P + 4294967296 * y * P := by rw [Nat.mul_add, ← Nat.mul_assoc, hf, Nat.add_mul, Nat.add_assoc]
  have e2 : x * P = (x - x % s) * P + x % s * P := by rw [← Nat.add_mul, Nat.sub_add_cancel (Nat.mod_le _ _)]
  have e3 : y * (P * 4294967296) = 4294967296 * y * P := by rw [Nat.mul_comm P, ← Nat.mul_assoc, Nat.mul_comm y]
  rw [e1, e2, e3]
  omega
end Go.Proofs.Wd
