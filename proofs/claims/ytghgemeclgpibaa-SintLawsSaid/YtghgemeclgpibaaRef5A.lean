/- Walks of straitref05: Of, Norm, Told, Great. -/
import Derived.Test.YtghgemeclgpibaaSintB
import Derived.Test.YtghgemeclgpibaaRefB
namespace Go.Proofs.Wd
open Go.RowKit Lb

theorem below_drewN {B : Nat} {w W : World} (h : Below B w W) (k : Nat) : Below B w (W.drewN k) := ⟨h.os, h.tape, h.output, h.size, h.block⟩

set_option maxHeartbeats 400000 in
theorem r5of_pos (k : Nat) (hk2 : k ≤ 9223372036854775807) (w : World) :
    Calls Try.prog 32 #[.int .i64 k] w (RetInt w k) := by
  have hk0 : (0 : Int) ≤ k := Int.natCast_nonneg k
  go_enter Try.func32, Try.ntmps32
  go_wp2_with (go_at_call 52; refine (rof_any k (by omega) _).mono ?_; rintro e w1 ⟨A2, n2, c2, l2, rfl, hi2, hr2, hb⟩; have hq := res2 hb (b := w.heap.size) rfl; obtain ⟨⟨q0, q1⟩, q2, q3⟩ := hq.facts2)
  obtain ⟨⟨c0, c1⟩, _, _⟩ := ((hq.set 0 (.bool (decide ((k : Int) < 0)))).set 1 (.slice A2 n2 c2)).facts2
  rw [show (Value.bool false) = .bool (decide ((k : Int) < 0)) from by rw [decide_eq_false (by omega)]] at *
  refine bodyPost_ret (v := .agg #[.bool (decide ((k : Int) < 0)), .slice A2 n2 c2]) (by simp [results, Try.results32, go_sem, c0, c1]) rfl ?_
  exact ret2 hq (((Below.refl _ w).alloc (Nat.le_refl _) _).trans (hb.mono (by simp))) (by simp) hi2 hr2
set_option maxHeartbeats 400000 in
theorem r5of_neg (k : Nat) (hk0 : 0 < k) (hk2 : k ≤ 9223372036854775808) (w : World) :
    Calls Try.prog 32 #[.int .i64 (-(k : Int))] w (RetInt w (-(k : Int))) := by
  have hk1 : (-(k : Int)) < 0 := by omega
  have hww : -(-(k : Int) + 1) + 1 = (k : Int) := by omega
  have hw1 := IntWalk.u64_in (k : Int) (by omega)
  have hw2 := IntWalk.u64_in (-(-(k : Int) + 1)) (by omega)
  have hw3 := IntWalk.i64_in (-(-(k : Int) + 1)) (by omega)
  have hw4 := IntWalk.i64_in (-(k : Int) + 1) (by omega)
  go_enter Try.func32, Try.ntmps32
  go_wp2_with (go_at_call 52; refine (rof_any k (by omega) _).mono ?_; rintro e w1 ⟨A2, n2, c2, l2, rfl, hi2, hr2, hb⟩; have hq := res2 hb (b := w.heap.size) rfl; obtain ⟨⟨q0, q1⟩, q2, q3⟩ := hq.facts2)
  obtain ⟨⟨c0, c1⟩, _, _⟩ := ((hq.set 0 (.bool true)).set 1 (.slice A2 n2 c2)).facts2
  refine bodyPost_ret (v := .agg #[.bool true, .slice A2 n2 c2]) (by simp [results, Try.results32, go_sem, c0, c1]) rfl ?_
  have e1 : decide (-(k : Int) < 0) = true := decide_eq_true hk1
  have := ret2 (v := -(k : Int)) hq (((Below.refl _ w).alloc (Nat.le_refl _) _).trans (hb.mono (by simp))) (by simp) (by simpa using hi2) hr2
  rw [e1] at this
  exact this
theorem r5of_any (k : Int) (hk : -9223372036854775808 ≤ k) (hk2 : k ≤ 9223372036854775807) (w : World) :
    Calls Try.prog 32 #[.int .i64 k] w (RetInt w k) := by
  rcases (by omega : 0 ≤ k ∨ k < 0) with h | h
  · obtain ⟨m, rfl⟩ := Int.eq_ofNat_of_zero_le h
    exact r5of_pos m (by omega) w
  · obtain ⟨m, hm⟩ := Int.eq_ofNat_of_zero_le (show 0 ≤ -k by omega)
    obtain rfl : k = -(m : Int) := by omega
    exact r5of_neg m (by omega) (by omega) w

set_option maxHeartbeats 400000 in
theorem r5norm_any (s : Bool) (A : Option Addr) (n c : Nat) (l : List Nat) (w : World) (h : Rd w A n c l) (ht : Lt l) (hl : n ≤ 1099511627776) :
    Calls Try.prog 16 #[.agg #[.bool s, .slice A n c]] w (RetInt w (iv s l)) := by
  go_enter Try.func16, Try.ntmps16
  go_wp2_with (go_at_call 42; refine (rtrim_any A n c l _ ((h.alloc _).alloc _) ht hl).mono ?_; rintro e w1 ⟨A2, n2, c2, l2, rfl, hi2, hr2, hb⟩; have hq := res2 hb (b := w.heap.size + 1) (by simp); obtain ⟨⟨q0, q1⟩, q2, q3⟩ := hq.facts2; have hp := ((BoxN.new w 25 #[.bool s, .slice A n c]).alloc (.cells #[.bool false, .slice none 0 0] 25)).kept hb; obtain ⟨⟨p0, p1⟩, p2, p3⟩ := hp.facts2)
  all_goals
    have hle := hr2.len; have hz := hi2.zero_iff
    have hb1 : Below w.heap.size w w1 := (((Below.refl _ w).alloc (Nat.le_refl _) _).alloc (by simp) _).trans (hb.mono (by simp; omega))
    have fin : ∀ x : Bool, x = decide (iv s l < 0) → BoxN ((w1.setCell ⟨w.heap.size + 1, 0, none⟩ (.bool x)).setCell ⟨w.heap.size + 1, 1, none⟩ (.slice A2 n2 c2)) (w.heap.size + 1) 25 #[.bool x, .slice A2 n2 c2] ∧ RetInt w (iv s l) (.returned (.agg #[.bool x, .slice A2 n2 c2])) ((w1.setCell ⟨w.heap.size + 1, 0, none⟩ (.bool x)).setCell ⟨w.heap.size + 1, 1, none⟩ (.slice A2 n2 c2)) := by
      rintro x rfl
      exact ⟨(hq.set 0 _).set 1 _, ret2 hq hb1 (by simp) (by rw [iv_abs]; exact hi2) hr2⟩
    first
      | (obtain ⟨hbx, hret⟩ := fin false (by rw [← iv_neg]; simp_all)
         obtain ⟨⟨c0, c1⟩, _, _⟩ := hbx.facts2
         refine bodyPost_ret (v := .agg #[.bool false, .slice A2 n2 c2]) (by simp [results, Try.results16, go_sem, c0, c1]) rfl hret)
      | (have hd : decide (0 < n2) = (s && !(val l == 0)) := by
           by_cases e : n2 = 0
           · rw [hz.2 (by omega), e]; simp
           · rw [decide_eq_true (by omega), beq_eq_false_iff_ne.2 (fun h => e (by have := hz.1 h; omega))]; simp_all
         obtain ⟨hbx, hret⟩ := fin (decide (0 < n2)) (by rw [← iv_neg]; exact hd)
         obtain ⟨⟨c0, c1⟩, _, _⟩ := hbx.facts2
         refine bodyPost_ret (v := .agg #[.bool (decide (0 < n2)), .slice A2 n2 c2]) (by simp [results, Try.results16, go_sem, c0, c1]) rfl hret)
      | go_show

set_option maxHeartbeats 400000 in
theorem r5told_any (s : Bool) (A : Option Addr) (n c : Nat) (l : List Nat) (s' : Bool) (A' : Option Addr) (n' c' : Nat) (l' : List Nat) (w : World) (h : Rd w A n c l) (h' : Rd w A' n' c' l') :
    Calls Try.prog 39 #[.agg #[.bool s, .slice A n c], .agg #[.bool s', .slice A' n' c']] w fun e w' => e = .returned (.bool (s == s' && decide (l = l'))) ∧ Below w.heap.size w w' := by
  go_enter Try.func39, Try.ntmps39
  have hb0 := ((Below.refl _ w).alloc (Nat.le_refl _) (.cells #[.bool s, .slice A n c] 25)).alloc (by simp) (.cells #[.bool s', .slice A' n' c'] 25)
  by_cases hs : s = s'
  · subst hs
    go_wp2_with (go_at_call 62; refine (rsame_any A n c l A' n' c' l' _ (h.below hb0) (h'.below hb0)).mono ?_; rintro e w1 ⟨rfl, nq, rfl⟩)
    all_goals
      go_ret
      exact ⟨by simp, below_drewN hb0 nq⟩
  · have hs1 : (s == s') = false := beq_eq_false_iff_ne.2 hs
    go_wp2
    all_goals
      go_ret
      exact ⟨by simp [hs1], hb0⟩

/-- How great the first k are, as straitref05.Great counts. -/
def gsum (is : List (Bool × List Nat)) : Nat → Nat
  | 0 => 0
  | k + 1 => gsum is k + min ((is[k]?.map fun p => p.2.length).getD 0) 1000
theorem gsum_le (is : List (Bool × List Nat)) : ∀ k, gsum is k ≤ 1000 * k
  | 0 => Nat.le_refl _
  | k + 1 => by
    have := gsum_le is k
    show gsum is k + min _ 1000 ≤ _
    omega
def greatI (is : List (Bool × List Nat)) : Bool := decide (20 < is.length) || decide (60 < gsum is (min is.length 21))

set_option maxHeartbeats 1000000 in
theorem r5great_any (A : Option Addr) (n c : Nat) (is : List (Bool × List Nat)) (w : World) (h : IRdM 9223372036854775807 w A n is) (hn : n ≤ c) (_hc : c ≤ 4000000000000000000) :
    Calls Try.prog 8 #[.slice A n c] w fun e w' => e = .returned (.bool (greatI is)) ∧ w' = w := by
  have hlen := h.len
  go_enter Try.func8, Try.ntmps8
  go_wp2
  go_loopw [3, 4] (fun t i wr => ∃ k : Nat, k ≤ n ∧ k ≤ 21 ∧ i = .int .i64 k ∧ t = .int .i64 (gsum is k : Nat) ∧ wr = w) (fun _ i _ => 21 - (intOf i).toNat)
  case atStart => exact ⟨0, Nat.zero_le _, by omega, rfl, rfl, rfl⟩
  case round =>
    obtain ⟨k, hk, hk2, rfl, rfl, rfl⟩ := hrel
    have hg := gsum_le is k
    by_cases hkn : k < n ∧ k < 21
    · obtain ⟨b, o, s, Ai, ni, ci, li, rfl, p1, p2, hi, hr, hli, hni⟩ := h.cells k hkn.1
      have hkn1 := hkn.1
      have hkn2 := hkn.2
      have hs1 : gsum is (k + 1) = gsum is k + min ni 1000 := by
        show gsum is k + min _ 1000 = _
        rw [hi, ← hr.len]
        rfl
      have HS := hid hs1
      obtain ⟨g, hgk⟩ : ∃ g, gsum is k = g := ⟨_, rfl⟩
      rw [hgk] at hg hs1
      simp only [hgk]
      clear hs1
      have HG := hid hgk
      clear hgk
      rcases (by omega : ni < 1000 ∨ 1000 ≤ ni) with hm2 | hm2
      all_goals
        have hm3 : (ni : Int) < 1000 ∨ 1000 ≤ (ni : Int) := by omega
        go_wp2
        go_roundw
        case rel => exact ⟨k + 1, by omega, by omega, by go_num, by have := HS.out; have := HG.out; go_num, trivial⟩
        case measure => simp [intOf]; omega
    · have hkk : (k = n ∧ n ≤ 20) ∨ (k < n ∧ k = 21) ∨ (k = n ∧ n = 21) := by omega
      have hres : greatI is = (decide (20 < n) || decide (60 < gsum is k)) := by
        unfold greatI
        rw [hlen]
        have : min n 21 = k := by omega
        rw [this]
      obtain ⟨g, hgk⟩ : ∃ g, gsum is k = g := ⟨_, rfl⟩
      simp only [hgk]
      rw [hgk] at hg hres
      have HR := hid hres
      clear hgk hres
      rcases hkk with ⟨rfl, hz⟩ | ⟨hz, hz2⟩ | ⟨rfl, hz⟩
      all_goals
        go_wp2
        all_goals
          go_ret
          refine ⟨?_, rfl⟩
          rw [HR.out]
          have e1 : decide ((20 : Int) < (k : Int)) = decide (20 < k) := decide_eq_decide.2 (by omega)
          have e2 : decide ((60 : Int) < (g : Int)) = decide (60 < g) := decide_eq_decide.2 (by omega)
          first | (simp; done) | (simp; omega) | (show Ending.returned (Value.bool (decide ((20 : Int) < (k : Int)) || decide ((60 : Int) < (g : Int)))) = _; rw [e1, e2]) | (rw [decide_eq_false (by omega : ¬ 20 < k)]; simp; done) | (rw [decide_eq_false (by omega : ¬ 20 < k)]; simp; omega) | (rw [decide_eq_true (by omega)]; simp; done) | go_show
end Go.Proofs.Wd
