/- The walk of sint.Small. -/
import Derived.Test.YtghgemeclgpibaaSintA
namespace Go.Proofs.Wd
open Go.RowKit Lb

/-- What sint.Small says. -/
def okI (v : Int) : Bool := decide (-9223372036854775808 ≤ v ∧ v ≤ 9223372036854775807)
def smI (v : Int) : Int := if okI v then v else 0

theorem okI_true {v : Int} (h : -9223372036854775808 ≤ v ∧ v ≤ 9223372036854775807) : okI v = true := decide_eq_true h
theorem okI_false {v : Int} (h : ¬ (-9223372036854775808 ≤ v ∧ v ≤ 9223372036854775807)) : okI v = false := decide_eq_false h

set_option maxHeartbeats 1000000 in
theorem ssmall_any (s : Bool) (A : Option Addr) (n c : Nat) (l : List Nat) (w : World) (v : Int) (h : Rd w A n c l) (ht : Lt l) (hl : n ≤ 1099511627776) (hv : iv s l = v) :
    Calls Try.prog 26 #[.agg #[.bool s, .slice A n c]] w fun e w' => e = .returned (.tuple #[.int .i64 (smI v), .bool (okI v)]) ∧ Below w.heap.size w w' := by
  have hof := sof_any s A n c l _ (h.alloc (.cells #[.bool s, .slice A n c] 25)) ht hl
  have hb0 := (Below.refl _ w).alloc (Nat.le_refl _) (.cells #[.bool s, .slice A n c] 25)
  rw [hv] at hof
  obtain ⟨k, hk⟩ : ∃ k, v.natAbs = k := ⟨_, rfl⟩
  rcases (by omega : (v = (k : Int) ∧ k < 9223372036854775808) ∨ (v = -(k : Int) ∧ 0 < k ∧ k ≤ 9223372036854775808) ∨ 18446744073709551616 ≤ k ∨ (k < 18446744073709551616 ∧ (9223372036854775808 < k ∨ (k = 9223372036854775808 ∧ 0 < v)))) with ⟨rfl, h1⟩ | ⟨rfl, h1, h2⟩ | h1 | ⟨h1, h2⟩
  · rw [show smI (k : Int) = k from if_pos (okI_true (by omega)), show okI (k : Int) = true from okI_true (by omega)]
    have e1 : smallOf k = k := if_pos (by omega)
    have e2 : isSmall k = true := decide_eq_true (by omega)
    have e3 : decide ((k : Int) < 0) = false := decide_eq_false (by omega)
    have e4 : IntKind.i64.wrap (k : Int) = k := IntWalk.i64_in _ (by omega)
    go_enter Try.func26, Try.ntmps26
    go_wp2_with (first | (go_at_call 35; refine hof.mono ?_; rintro e w1 ⟨B, rfl, hB, hn, hb⟩; have hb1 := hb0.trans (hb.mono hb0.size); obtain ⟨A2, n2, c2, l2, ⟨g0, g1⟩, hi2, hr2⟩ := hn.parts; rw [e3] at g0) | (go_at_call 48; refine (small_any A2 n2 c2 l2 _ hr2 hi2.lt).mono ?_; rw [hi2.val, hk, e1, e2]; rintro e w2 ⟨rfl, rfl⟩))
    all_goals
      first | done | (go_ret2; exact ⟨rfl, hb1⟩) | go_show
  · rw [show smI (-(k : Int)) = -k from if_pos (okI_true (by omega)), show okI (-(k : Int)) = true from okI_true (by omega)]
    have e1 : smallOf k = k := if_pos (by omega)
    have e2 : isSmall k = true := decide_eq_true (by omega)
    have e3 : decide (-(k : Int) < 0) = true := decide_eq_true (by omega)
    have e4 : IntKind.i64.wrap (IntKind.u64.wrap (-(k : Int))) = -(k : Int) := by
      simp only [IntKind.wrap, IntKind.bits, IntKind.signed]; simp; omega
    rcases (by omega : k = 9223372036854775808 ∨ k < 9223372036854775808) with rfl | h3
    · have e5 : wrap64 (IntKind.u64.wrap (-9223372036854775808)) = -9223372036854775808 := by kernel_rfl
      go_enter Try.func26, Try.ntmps26
      go_wp2_with (first | (go_at_call 35; refine hof.mono ?_; rintro e w1 ⟨B, rfl, hB, hn, hb⟩; have hb1 := hb0.trans (hb.mono hb0.size); obtain ⟨A2, n2, c2, l2, ⟨g0, g1⟩, hi2, hr2⟩ := hn.parts; rw [e3] at g0) | (go_at_call 48; refine (small_any A2 n2 c2 l2 _ hr2 hi2.lt).mono ?_; rw [hi2.val, hk, e1, e2]; rintro e w2 ⟨rfl, rfl⟩))
      all_goals
        first | done | (go_ret2; exact ⟨by simp; exact e5, hb1⟩) | go_show
    · have e6 := h3
      go_enter Try.func26, Try.ntmps26
      go_wp2_with (first | (go_at_call 35; refine hof.mono ?_; rintro e w1 ⟨B, rfl, hB, hn, hb⟩; have hb1 := hb0.trans (hb.mono hb0.size); obtain ⟨A2, n2, c2, l2, ⟨g0, g1⟩, hi2, hr2⟩ := hn.parts; rw [e3] at g0) | (go_at_call 48; refine (small_any A2 n2 c2 l2 _ hr2 hi2.lt).mono ?_; rw [hi2.val, hk, e1, e2]; rintro e w2 ⟨rfl, rfl⟩))
      all_goals
        first | done | (go_ret2; exact ⟨rfl, hb1⟩) | go_show
  · rw [show smI v = 0 from by unfold smI; rw [okI_false (by omega)]; rfl, show okI v = false from okI_false (by omega)]
    have e1 : smallOf k = 0 := if_neg (by omega)
    have e2 : isSmall k = false := decide_eq_false (by omega)
    obtain ⟨sb, e3⟩ : ∃ sb, decide (v < 0) = sb := ⟨_, rfl⟩
    go_enter Try.func26, Try.ntmps26
    go_wp2_with (first | (go_at_call 35; refine hof.mono ?_; rintro e w1 ⟨B, rfl, hB, hn, hb⟩; have hb1 := hb0.trans (hb.mono hb0.size); obtain ⟨A2, n2, c2, l2, ⟨g0, g1⟩, hi2, hr2⟩ := hn.parts; rw [e3] at g0) | (go_at_call 48; refine (small_any A2 n2 c2 l2 _ hr2 hi2.lt).mono ?_; rw [hi2.val, hk, e1, e2]; rintro e w2 ⟨rfl, rfl⟩))
    all_goals
      first | done | (go_ret2; exact ⟨rfl, hb1⟩) | go_show
  · rw [show smI v = 0 from by unfold smI; rw [okI_false (by omega)]; rfl, show okI v = false from okI_false (by omega)]
    have e1 : smallOf k = k := if_pos (by omega)
    have e2 : isSmall k = true := decide_eq_true (by omega)
    rcases h2 with h2 | ⟨rfl, h3⟩
    · obtain ⟨sb, e3⟩ : ∃ sb, decide (v < 0) = sb := ⟨_, rfl⟩
      go_enter Try.func26, Try.ntmps26
      go_wp2_with (first | (go_at_call 35; refine hof.mono ?_; rintro e w1 ⟨B, rfl, hB, hn, hb⟩; have hb1 := hb0.trans (hb.mono hb0.size); obtain ⟨A2, n2, c2, l2, ⟨g0, g1⟩, hi2, hr2⟩ := hn.parts; rw [e3] at g0) | (go_at_call 48; refine (small_any A2 n2 c2 l2 _ hr2 hi2.lt).mono ?_; rw [hi2.val, hk, e1, e2]; rintro e w2 ⟨rfl, rfl⟩))
      all_goals
        first | done | (go_ret2; exact ⟨rfl, hb1⟩) | go_show
    · have e3 : decide (v < 0) = false := decide_eq_false (by omega)
      go_enter Try.func26, Try.ntmps26
      go_wp2_with (first | (go_at_call 35; refine hof.mono ?_; rintro e w1 ⟨B, rfl, hB, hn, hb⟩; have hb1 := hb0.trans (hb.mono hb0.size); obtain ⟨A2, n2, c2, l2, ⟨g0, g1⟩, hi2, hr2⟩ := hn.parts; rw [e3] at g0) | (go_at_call 48; refine (small_any A2 n2 c2 l2 _ hr2 hi2.lt).mono ?_; rw [hi2.val, hk, e1, e2]; rintro e w2 ⟨rfl, rfl⟩))
      all_goals
        first | done | (go_ret2; exact ⟨rfl, hb1⟩) | go_show
end Go.Proofs.Wd
