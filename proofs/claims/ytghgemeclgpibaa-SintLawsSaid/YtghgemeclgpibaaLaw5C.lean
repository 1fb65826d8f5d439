/- Plain facts of the order of integers. -/
import Derived.Test.YtghgemeclgpibaaLaw5B
namespace Go.Proofs.Wd

theorem sign_cases (d : Int) : d.sign = -1 ∧ d < 0 ∨ d.sign = 0 ∧ d = 0 ∨ d.sign = 1 ∧ 0 < d := by
  rcases Int.lt_trichotomy d 0 with h | h | h
  · exact .inl ⟨Int.sign_eq_neg_one_of_neg h, h⟩
  · subst h; exact .inr (.inl ⟨rfl, rfl⟩)
  · exact .inr (.inr ⟨Int.sign_eq_one_of_pos h, h⟩)
theorem sign_swap (a b : Int) : (b - a).sign = -(a - b).sign := by
  rw [← Int.sign_neg, Int.neg_sub]
theorem sign_shift (a b c : Int) : (a + c - (b + c)).sign = (a - b).sign := by
  congr 1; omega
theorem sign_turn (a b : Int) : (-b - -a).sign = (a - b).sign := by
  congr 1; omega
theorem sign_pass {a b c : Int} (h1 : (a - b).sign ≤ 0) (h2 : (b - c).sign ≤ 0) : (a - c).sign ≤ 0 := by
  rcases sign_cases (a - b) with h | h | h <;> rcases sign_cases (b - c) with k | k | k <;> rcases sign_cases (a - c) with m | m | m <;> omega
end Go.Proofs.Wd
