/- Dividing integers downwards, over naturals: plain arithmetic. -/
import Derived.Test.YtghgemeclgpibaaDoorMath
namespace Lb

/-- On the divisor's side of nought, and less. -/
def FloorRest (r b : Int) : Prop := (0 ≤ r ∧ r < b) ∨ (b < r ∧ r ≤ 0)

def sg (s : Bool) (x : Nat) : Int := if s then -(x : Int) else x

theorem floor_parts (a b : Nat) (hb : 0 < b) : ∃ q r : Nat, a / b = q ∧ a % b = r ∧ (a : Int) = (q : Int) * (b : Int) + (r : Int) ∧ r < b :=
  ⟨a / b, a % b, rfl, rfl, by
    have := Nat.div_add_mod a b
    rw [← Int.natCast_mul, ← Int.natCast_add, Nat.mul_comm, this], Nat.mod_lt _ hb⟩

theorem floor_same (v v' : Int) (h0 : v' ≠ 0) (hs : decide (v < 0) = decide (v' < 0)) :
    v = sg false (v.natAbs / v'.natAbs) * v' + sg (decide (v' < 0)) (v.natAbs % v'.natAbs) ∧ FloorRest (sg (decide (v' < 0)) (v.natAbs % v'.natAbs)) v' := by
  obtain ⟨q, r, hq, hr, e, hlt⟩ := floor_parts v.natAbs v'.natAbs (by omega)
  rw [hq, hr]
  unfold sg FloorRest
  by_cases h1 : v' < 0
  · have h2 : v < 0 := by rw [decide_eq_true h1] at hs; exact of_decide_eq_true hs
    have e1 : (v'.natAbs : Int) = -v' := by omega
    have e2 : (v.natAbs : Int) = -v := by omega
    rw [e1, e2, Int.mul_neg] at e
    simp only [h1, decide_true, if_true, Bool.false_eq_true, if_false]
    omega
  · have h2 : ¬ v < 0 := by rw [decide_eq_false h1] at hs; exact of_decide_eq_false hs
    have e1 : (v'.natAbs : Int) = v' := by omega
    have e2 : (v.natAbs : Int) = v := by omega
    rw [e1, e2] at e
    simp only [h1, decide_false, Bool.false_eq_true, if_false]
    omega

theorem floor_even (v v' : Int) (h0 : v' ≠ 0) (hs : (decide (v < 0) == decide (v' < 0)) = false) (hr0 : v.natAbs % v'.natAbs = 0) :
    v = sg true (v.natAbs / v'.natAbs) * v' + sg (decide (v' < 0)) (v.natAbs % v'.natAbs) ∧ FloorRest (sg (decide (v' < 0)) (v.natAbs % v'.natAbs)) v' := by
  obtain ⟨q, r, hq, hr, e, hlt⟩ := floor_parts v.natAbs v'.natAbs (by omega)
  rw [hr] at hr0
  subst hr0
  rw [hq, hr]
  unfold sg FloorRest
  have hs' := beq_eq_false_iff_ne.1 hs
  by_cases h1 : v' < 0
  · have h2 : ¬ v < 0 := fun h2 => hs' (by rw [decide_eq_true h1, decide_eq_true h2])
    have e1 : (v'.natAbs : Int) = -v' := by omega
    have e2 : (v.natAbs : Int) = v := by omega
    rw [e1, e2, Int.mul_neg] at e
    simp only [h1, decide_true, if_true, Int.neg_mul]
    omega
  · have h2 : v < 0 := Decidable.byContradiction fun h2 => hs' (by rw [decide_eq_false h1, decide_eq_false h2])
    have e1 : (v'.natAbs : Int) = v' := by omega
    have e2 : (v.natAbs : Int) = -v := by omega
    rw [e1, e2] at e
    simp only [h1, decide_false, if_true, Bool.false_eq_true, if_false, Int.neg_mul]
    omega

theorem floor_down (v v' : Int) (h0 : v' ≠ 0) (hs : (decide (v < 0) == decide (v' < 0)) = false) (hr0 : 0 < v.natAbs % v'.natAbs) :
    v = sg true (v.natAbs / v'.natAbs + 1) * v' + sg (decide (v' < 0)) (v'.natAbs - v.natAbs % v'.natAbs) ∧ FloorRest (sg (decide (v' < 0)) (v'.natAbs - v.natAbs % v'.natAbs)) v' := by
  obtain ⟨q, r, hq, hr, e, hlt⟩ := floor_parts v.natAbs v'.natAbs (by omega)
  rw [hr] at hr0
  rw [hq, hr]
  unfold sg FloorRest
  have hs' := beq_eq_false_iff_ne.1 hs
  by_cases h1 : v' < 0
  · have h2 : ¬ v < 0 := fun h2 => hs' (by rw [decide_eq_true h1, decide_eq_true h2])
    have e1 : (v'.natAbs : Int) = -v' := by omega
    have e2 : (v.natAbs : Int) = v := by omega
    rw [e1, e2, Int.mul_neg] at e
    simp only [h1, decide_true, if_true, Int.neg_mul, Int.natCast_add, Int.add_mul, Int.natCast_one, Int.one_mul]
    omega
  · have h2 : v < 0 := Decidable.byContradiction fun h2 => hs' (by rw [decide_eq_false h1, decide_eq_false h2])
    have e1 : (v'.natAbs : Int) = v' := by omega
    have e2 : (v.natAbs : Int) = -v := by omega
    rw [e1, e2] at e
    simp only [h1, decide_false, if_true, Bool.false_eq_true, if_false, Int.neg_mul, Int.natCast_add, Int.add_mul, Int.natCast_one, Int.one_mul]
    omega
end Lb
