/- The walks of straitref04's Same and of straitlaw04's wakes. -/
import Derived.Test.YtghgemeclgpibaaDoorGcdC
namespace Go.Proofs.Wd
open Go.RowKit Lb

set_option maxHeartbeats 400000 in
theorem r4same_any (A : Option Addr) (n c : Nat) (l : List Nat) (A' : Option Addr) (n' c' : Nat) (l' : List Nat) (w : World) (h : Rd w A n c l) (h' : Rd w A' n' c' l') :
    Calls Tryd.prog 13 #[.slice A n c, .slice A' n' c'] w fun e w' => e = .returned (.bool (decide (l = l'))) ∧ ∃ nq, w' = w.drewN nq := by
  have hle := h.le; have hcap := h.cap; have hle' := h'.le; have hcap' := h'.cap
  have HN : Hid (l.length = n ∧ l'.length = n') := ⟨h.len, h'.len⟩
  by_cases hnn : n = n'
  · subst hnn
    go_enter Tryd.func13, Tryd.ntmps13
    go_wp2
    go_loopw [5] (fun x wr => ∃ k : Nat, k ≤ n ∧ x = .int .i64 k ∧ (∃ nq, wr = w.drewN nq) ∧ Hid (∀ j, j < k → lm l j = lm l' j)) (fun x _ => n - (intOf x).toNat)
    case atStart => exact ⟨0, Nat.zero_le _, rfl, ⟨0, rfl⟩, hid (fun j hj => by omega)⟩
    case round =>
      obtain ⟨k, hk, rfl, ⟨nq, rfl⟩, HK⟩ := hrel
      by_cases h0 : k < n
      · obtain ⟨b, o, rfl, hc⟩ := h.cells k h0
        obtain ⟨b', o', rfl, hc'⟩ := h'.cells k h0
        have h0' : (0 : Int) ≤ k := Int.natCast_nonneg k
        by_cases h1 : lm l k = lm l' k
        · have hx : ((lm l k : Int) != (lm l' k : Int)) = false := by rw [h1]; simp
          go_wp2
          go_quiet (fail)
          go_wp2
          go_roundw
          case rel => exact ⟨k + 1, by omega, by go_num, ⟨_, rfl⟩, hid (fun j hj => by
            by_cases e : j = k
            · subst e; exact h1
            · exact HK.out j (by omega))⟩
          case measure => simp [intOf]; omega
        · have hx : ((lm l k : Int) != (lm l' k : Int)) = true := by simp only [bne_iff_ne, ne_eq]; omega
          have HV : Hid (decide (l = l') = false) := hid (decide_eq_false (same_not h1))
          clear h1
          go_wp2
          go_quiet (fail)
          go_wp2
          go_ret
          exact ⟨by rw [HV.out]; rfl, _, drew_drew w _ _⟩
      · obtain rfl : k = n := by omega
        have HV : Hid (decide (l = l') = true) := hid (decide_eq_true (same_all (by have := HN.out; omega) (fun j hj => HK.out j (by have := HN.out; omega))))
        go_wp2
        go_ret
        exact ⟨by rw [HV.out]; rfl, _, rfl⟩
  · have hx : ((n : Int) != (n' : Int)) = true := by simp only [bne_iff_ne, ne_eq]; omega
    have HV : Hid (decide (l = l') = false) := hid (decide_eq_false (fun e => by subst e; have := HN.out; omega))
    clear hnn
    go_enter Tryd.func13, Tryd.ntmps13
    go_wp2
    go_ret
    exact ⟨by rw [HV.out]; rfl, 0, rfl⟩
theorem below_dn {W : World} (nq : Nat) : Below W.heap.size W (W.drewN nq) := ⟨(Below.refl W.heap.size W).os, (Below.refl W.heap.size W).tape, (Below.refl W.heap.size W).output, (Below.refl W.heap.size W).size, (Below.refl W.heap.size W).block⟩
theorem r4same_t {W : World} {v v' : Value} {x y : Nat} (h : NatV W v x) (h' : NatV W v' y) (hxy : x = y) : Calls Tryd.prog 13 #[v, v'] W fun e w' => e = .returned (.bool true) ∧ Below W.heap.size W w' := by
  obtain ⟨A, n, c, l, rfl, h1, h2⟩ := h
  obtain ⟨A', n', c', l', rfl, h1', h2'⟩ := h'
  refine (r4same_any A n c l A' n' c' l' W h2 h2').mono ?_
  rintro e w' ⟨rfl, nq, rfl⟩
  have : l = l' := by subst hxy; exact h1.inj h1'
  exact ⟨by rw [decide_eq_true this], below_dn nq⟩

theorem is_one {l : List Nat} {x : Nat} (h : Is l x) (h0 : 0 < x) (h1 : x < BB) : l = [x] := by
  refine h.inj ⟨fun y hy => by simp at hy; omega, fun hn => by simp; omega, ?_⟩
  show sm (lm [x]) 1 = x
  simp [sm, lm]
/-- A number of one limb, in a new block. -/
theorem lit_lv (x : Nat) (hx : x < BB) (z : Int) (hz : z = x) (w : World) (t : TypeId) : LV (w.alloc (.cells #[.int .u32 z] t)) 1 (.slice (some ⟨w.heap.size, 0, none⟩) 1 1) x := by
  subst hz
  refine ⟨_, 1, 1, [x], rfl, Rd.new w [x] t #[.int .u32 (x : Int)] (by simp [u32s]) (by simp), fun y hy => by simp at hy; omega, Nat.le_refl _, ?_⟩
  show sm (lm [x]) 1 = x
  simp [sm, lm]
/-- A number of one limb, read. -/
theorem NatV.limb {W : World} {v : Value} {x : Nat} (h : NatV W v x) (h0 : 0 < x) (h1 : x < BB) : ∃ b o c, v = .slice (some ⟨b, o, none⟩) 1 c ∧ 1 ≤ c ∧ c ≤ 9223372036854775807 ∧ W.cell? ⟨b, o, none⟩ = some (.int .u32 x) := by
  obtain ⟨A, n, c, l, rfl, g1, g2⟩ := h
  have hl := is_one g1 h0 h1
  subst hl
  obtain rfl : n = 1 := g2.len.symm
  obtain ⟨b, o, rfl, hc⟩ := g2.cells 0 (by omega)
  exact ⟨b, o, c, rfl, g2.le, g2.cap, by simpa [lm] using hc⟩

theorem two_lits (x y : Nat) (hx : x < BB) (hy : y < BB) (z u : Int) (hz : z = x) (hu : u = y) (w : World) (t : TypeId) :
    LV ((w.alloc (.cells #[.int .u32 z] t)).alloc (.cells #[.int .u32 u] t)) 1 (.slice (some ⟨w.heap.size, 0, none⟩) 1 1) x ∧
    LV ((w.alloc (.cells #[.int .u32 z] t)).alloc (.cells #[.int .u32 u] t)) 1 (.slice (some ⟨w.heap.size + 1, 0, none⟩) 1 1) y ∧
    Below w.heap.size w ((w.alloc (.cells #[.int .u32 z] t)).alloc (.cells #[.int .u32 u] t)) := by
  refine ⟨(lit_lv x hx z hz w t).below ((Below.refl _ _).alloc (Nat.le_refl _) _), ?_, ((Below.refl _ w).alloc (Nat.le_refl _) _).alloc (by simp) _⟩
  have := lit_lv y hy u hu (w.alloc (.cells #[.int .u32 z] t)) t
  rwa [World.size_alloc] at this

set_option maxHeartbeats 1000000 in
theorem wakes4_any (w : World) (hT : Tab w) : Calls Tryd.prog 11 #[] w fun e w' => e = .returned (.bool true) ∧ Below w.heap.size w w' := by
  have a1 := hid (fun w => two_lits 12 18 (by decide) (by decide) 12 18 rfl rfl w 49)
  have a2 := hid (fun w => two_lits 4 6 (by decide) (by decide) 4 6 rfl rfl w 49)
  go_enter Tryd.func11, Tryd.ntmps11
  go_wp2_with fail
  obtain ⟨p1, p2, p3⟩ := a1.out w
  refine (gcd_v p1 p2 (by decide) (hT.below p3)).mono ?_
  rintro e w1 ⟨v1, rfl, hv1, b1⟩
  have c1 := p3.trans (b1.mono p3.size)
  go_wp2_with fail
  obtain ⟨q1, q2, q3⟩ := a1.out w1
  have c2 := c1.trans (q3.mono c1.size)
  refine (reduce_v q1 q2 (by decide) (hT.below c2)).mono ?_
  rintro e w2 ⟨v2, v3, rfl, hv2, hv3, b2⟩
  have c3 := c2.trans (b2.mono c2.size)
  have d2 := q3.trans (b2.mono q3.size)
  go_wp2_with fail
  obtain ⟨r1, r2, r3⟩ := a2.out w2
  have c4 := c3.trans (r3.mono c3.size)
  refine (lcm_v r1 r2 (by decide) (hT.below c4)).mono ?_
  rintro e w3 ⟨v4, rfl, hv4, b3⟩
  have d3 := r3.trans (b3.mono r3.size)
  have d4 := d2.trans (d3.mono d2.size)
  have c5 := c4.trans (b3.mono c4.size)
  have hv1' := hv1.below d4
  have hv2' := hv2.below d3
  have hv3' := hv3.below d3
  obtain ⟨x1, y1, z1, rfl, g1, g2, g3⟩ := hv1'.limb (by decide) (by decide)
  obtain ⟨x2, y2, z2, rfl, g4, g5, g6⟩ := hv2'.limb (by decide) (by decide)
  obtain ⟨x3, y3, z3, rfl, g7, g8, g9⟩ := hv3'.limb (by decide) (by decide)
  obtain ⟨x4, y4, z4, rfl, g10, g11, g12⟩ := hv4.limb (by decide) (by decide)
  have hc := coprime_v (hv2'.lv (m := 1) (by decide)) (hv3'.lv (m := 1) (by decide)) (by decide) (hT.below c5)
  rw [show (Nat.gcd (12 / Nat.gcd 12 18) (18 / Nat.gcd 12 18) == 1) = true from by decide] at hc
  rw [show Nat.gcd 12 18 = 6 from by decide] at g3
  rw [show 12 / Nat.gcd 12 18 = 2 from by decide] at g6
  rw [show 18 / Nat.gcd 12 18 = 3 from by decide] at g9
  rw [show 4 / Nat.gcd 4 6 * 6 = 12 from by decide] at g12
  go_wp2_with fail
  refine hc.mono ?_
  rintro e w5 ⟨rfl, b5⟩
  go_wp2_with fail
  go_ret
  exact ⟨rfl, c5.trans (b5.mono c5.size)⟩
end Go.Proofs.Wd
