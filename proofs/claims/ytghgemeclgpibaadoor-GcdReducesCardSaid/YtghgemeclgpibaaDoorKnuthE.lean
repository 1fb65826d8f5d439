/- Plain facts of long division: one digit. -/
import Derived.Test.YtghgemeclgpibaaDoorKnuthC
namespace Go.Proofs.Wd
open Lb

theorem lm_high {l : List Nat} {n i : Nat} (h : val l < BB ^ n) (hi : n ≤ i) : lm l i = 0 := by
  rcases Nat.eq_zero_or_pos (lm l i) with h0 | h0
  · exact h0
  · exfalso
    have hil : i < l.length := by
      rcases Nat.lt_or_ge i l.length with e | e
      · exact e
      · rw [lm_ge e] at h0; omega
    have e1 : sm (lm l) (i + 1) ≤ val l := sm_mono (by omega)
    have e2 : sm (lm l) (i + 1) = sm (lm l) i + lm l i * BB ^ i := rfl
    have e3 : BB ^ n ≤ BB ^ i := Nat.pow_le_pow_right BB_pos hi
    have e4 : 1 * BB ^ i ≤ lm l i * BB ^ i := Nat.mul_le_mul_right _ h0
    omega

theorem step_math (x A V : Nat) (hV : 0 < V) (hx : x < BB) : (x + BB * (A % V)) / V = (x + BB * A) / V % BB ∧ (x + BB * (A % V)) % V = (x + BB * A) % V ∧ x + BB * (A % V) < V * BB := by
  have h1 := long_math (x := x) (Nat.div_add_mod A V).symm
  have hm := Nat.mod_lt A hV
  have hlt : x + BB * (A % V) < V * BB := by
    have : BB * (A % V) + BB ≤ BB * V := by
      rw [← Nat.mul_succ]
      exact Nat.mul_le_mul_left _ hm
    rw [Nat.mul_comm V]
    omega
  have hq : (x + BB * (A % V)) / V < BB := Nat.div_lt_of_lt_mul hlt
  have hr := Nat.mod_lt (x + BB * (A % V)) hV
  refine ⟨?_, ?_, hlt⟩
  · rw [h1, Nat.mul_add_div hV, Nat.div_eq_of_lt hr, Nat.add_zero, Nat.add_mul_mod_self_left, Nat.mod_eq_of_lt hq]
  · rw [h1, Nat.mul_add_mod, Nat.mod_mod]

/-- The quotient's digit at a place. -/
def dig (l0 lb : List Nat) (p : Nat) : Nat := val (l0.drop p) / val lb % BB
/-- What is left, with j places to come. -/
structure Left (l0 lb lr : List Nat) (j : Nat) : Prop where
  len : lr.length = l0.length
  lt : Lt lr
  low : ∀ x, x < j → lm lr x = lm l0 x
  top : val (lr.drop j) = val (l0.drop j) % val lb

theorem Left.wins {l0 lb lr : List Nat} {p n : Nat} (h : Left l0 lb lr (p + 1)) (h0 : Lt l0) (hb : Lt lb) (hn : lb.length = n) (hp : p + n < l0.length) (hV : 0 < val lb) :
    win lr p (n + 1) = lm l0 p + BB * (val (l0.drop (p + 1)) % val lb) ∧ win lr p (n + 1) < val lb * BB ∧ val lb * BB ≤ BB ^ (n + 1) ∧ win lr p (n + 1) / val lb = dig l0 lb p ∧ win lr p (n + 1) % val lb = val (l0.drop p) % val lb ∧ ∀ x, p + (n + 1) ≤ x → lm lr x = 0 := by
  have hpl : p < lr.length := by rw [h.len]; omega
  have e1 : val (lr.drop p) = lm l0 p + BB * (val (l0.drop (p + 1)) % val lb) := by rw [val_drop hpl, h.top, h.low p (by omega)]
  obtain ⟨s1, s2, s3⟩ := step_math (lm l0 p) (val (l0.drop (p + 1))) (val lb) hV (lm_BB h0 p)
  have e2 : val lb * BB ≤ BB ^ (n + 1) := by
    rw [Nat.pow_succ]
    exact Nat.mul_le_mul_right _ (Nat.le_of_lt (by rw [← hn]; exact val_lt hb))
  have e3 : val (lr.drop p) < BB ^ (n + 1) := by rw [e1]; omega
  have e4 : win lr p (n + 1) = val (lr.drop p) := by rw [← win_drop, val_low e3]
  have e5 : val (l0.drop p) = lm l0 p + BB * val (l0.drop (p + 1)) := val_drop (by omega)
  refine ⟨e4.trans e1, by rw [e4, e1]; exact s3, e2, ?_, ?_, fun x hx => ?_⟩
  · unfold dig
    rw [e4, e1, s1, e5]
  · rw [e4, e1, s2, e5]
  · have := lm_high (i := x - p) e3 (by omega)
    rw [lm_drop] at this
    rwa [show p + (x - p) = x from by omega] at this

theorem Left.next {l0 lb lr lr' : List Nat} {p n : Nat} (h : Left l0 lb lr (p + 1)) (h0 : Lt l0) (hb : Lt lb) (hn : lb.length = n) (hp : p + n < l0.length) (hV : 0 < val lb)
    (hl : lr'.length = lr.length) (ht : Lt lr') (ho : ∀ x, x < p ∨ p + (n + 1) ≤ x → lm lr' x = lm lr x) (hw : win lr' p (n + 1) = win lr p (n + 1) % val lb) : Left l0 lb lr' p := by
  obtain ⟨w1, w2, w3, w4, w5, w6⟩ := h.wins h0 hb hn hp hV
  refine ⟨hl.trans h.len, ht, fun x hx => (ho x (.inl hx)).trans (h.low x (by omega)), ?_⟩
  rw [← w5, ← hw]
  have e1 : val (lr'.drop p) = sm (lm (lr'.drop p)) (n + 1) := by
    refine sm_ext (by rw [List.length_drop, hl, h.len]; omega) fun i hi _ => ?_
    rw [lm_drop, ho _ (.inr (by omega))]
    exact w6 _ (by omega)
  rw [e1, win_drop]

theorem Left.start {l0 lb : List Nat} {m : Nat} (h0 : Lt l0) (h : val (l0.drop m) < val lb) : Left l0 lb l0 m := ⟨rfl, h0, fun _ _ => rfl, (Nat.mod_eq_of_lt h).symm⟩

/-- The guess is not too small. -/
theorem guess_ok {lr lb : List Nat} {p n : Nat} (ht : Lt lr) (hn : lb.length = n) (hn0 : 0 < n) (hv : 0 < lm lb (n - 1)) (hw : win lr p (n + 1) < val lb * BB) : win lr p (n + 1) / val lb ≤ guessOf lr lb p n ∧ guessOf lr lb p n ≤ 4294967295 := by
  refine ⟨?_, Nat.min_le_right _ _⟩
  unfold guessOf
  refine Nat.le_min.2 ⟨?_, guess_cap (by unfold BB at hw; exact hw)⟩
  obtain ⟨k, rfl⟩ : ∃ k, n = k + 1 := ⟨n - 1, by omega⟩
  refine guess_math (Q := BB ^ k) hv ?_ ?_
  · rw [win_succ, win_succ]
    have h1 := win_lt ht p k
    have e1 : p + (k + 1) - 1 = p + k := by omega
    rw [e1, Nat.pow_succ, Nat.add_mul, Nat.add_mul, Nat.one_mul, Nat.mul_assoc (lm lr (p + (k + 1))) 4294967296]
    have e2 : 4294967296 * BB ^ k = BB ^ k * BB := by rw [Nat.mul_comm]; rfl
    rw [e2]
    omega
  · have e1 : val lb = sm (lm lb) (k + 1) := by unfold val; rw [hn]
    rw [e1, Nat.add_sub_cancel]
    exact Nat.le_add_left _ _

/-- The quotient of all digits. -/
theorem digs_val {l0 lb lq : List Nat} {m : Nat} (hV : 0 < val lb) (h0 : Lt l0) (hm : m ≤ l0.length) (h : val (l0.drop m) < val lb) (hl : lq.length = m) (hd : ∀ p, p < m → lm lq p = dig l0 lb p) : val lq = val l0 / val lb := by
  have key : ∀ j, j ≤ m → val (lq.drop (m - j)) = val (l0.drop (m - j)) / val lb := by
    intro j
    induction j with
    | zero =>
      intro _
      rw [Nat.sub_zero, Nat.div_eq_of_lt h, List.drop_eq_nil_of_le (by omega)]
      rfl
    | succ j ih =>
      intro hj
      have ih := ih (by omega)
      have e : m - j = m - (j + 1) + 1 := by omega
      rw [e] at ih
      obtain ⟨p, hp⟩ : ∃ p, m - (j + 1) = p := ⟨_, rfl⟩
      rw [hp] at ih ⊢
      rw [val_drop (l := lq) (k := p) (by omega), ih, hd p (by omega)]
      unfold dig
      have e5 : val (l0.drop p) = lm l0 p + BB * val (l0.drop (p + 1)) := val_drop (by omega)
      have s := step_math (lm l0 p) (val (l0.drop (p + 1))) (val lb) hV (lm_BB h0 p)
      have h1 := long_math (x := lm l0 p) (Nat.div_add_mod (val (l0.drop (p + 1))) (val lb)).symm
      have hr := Nat.mod_lt (lm l0 p + BB * (val (l0.drop (p + 1)) % val lb)) hV
      rw [e5, ← s.1]
      rw [h1, Nat.mul_add_div hV, Nat.div_eq_of_lt hr]
      rfl
  have := key m (Nat.le_refl _)
  rwa [Nat.sub_self, List.drop_zero, List.drop_zero] at this
end Go.Proofs.Wd
