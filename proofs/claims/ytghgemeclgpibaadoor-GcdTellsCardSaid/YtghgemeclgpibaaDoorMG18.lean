/- Natural numbers as values; the walks of gcd's Reduce, Lcm, Coprime; The walks of straitref04's Same and of straitlaw04's wakes; The walk of straitref03's Div; The reference's Div, Add, Cmp on numbers as values; the walk of gcd's All; The walk of straitlaw04.GcdReduces. -/
import Derived.Test.YtghgemeclgpibaaDoorMG17
import Derived.Test.YtghgemeclgpibaaDoorMG10
import Derived.Test.YtghgemeclgpibaaDoorMG7
import Derived.Test.YtghgemeclgpibaaDoorMG15
import Derived.Test.YtghgemeclgpibaaDoorMG8
namespace Go.Proofs.Wd
open Go.RowKit Lb

/-- The value v reads as x, in at most m limbs. -/
def LV (W : World) (m : Nat) (v : Value) (x : Nat) : Prop := ∃ A n c l, v = .slice A n c ∧ Rd W A n c l ∧ Lt l ∧ n ≤ m ∧ val l = x
theorem LV.mk {W : World} {m : Nat} {A : Option Addr} {n c : Nat} {l : List Nat} (h : Rd W A n c l) (ht : Lt l) (hn : n ≤ m) : LV W m (.slice A n c) (val l) := ⟨A, n, c, l, rfl, h, ht, hn, rfl⟩
theorem LV.below {W W' : World} {m : Nat} {v : Value} {x : Nat} (h : LV W m v x) (hb : Below W.heap.size W W') : LV W' m v x := by
  obtain ⟨A, n, c, l, rfl, h1, h2⟩ := h
  exact ⟨A, n, c, l, rfl, h1.below hb, h2⟩
theorem LV.mono {W : World} {m m' : Nat} {v : Value} {x : Nat} (h : LV W m v x) (hm : m ≤ m') : LV W m' v x := by
  obtain ⟨A, n, c, l, rfl, h1, h2, h3, h4⟩ := h
  exact ⟨A, n, c, l, rfl, h1, h2, by omega, h4⟩
theorem LV.bound {W : World} {m : Nat} {v : Value} {x : Nat} (h : LV W m v x) : x < BB ^ m := by
  obtain ⟨A, n, c, l, rfl, h1, h2, h3, rfl⟩ := h
  exact Nat.lt_of_lt_of_le (val_lt h2) (Nat.pow_le_pow_right BB_pos (by rw [h1.len]; exact h3))
theorem NatV.lv {W : World} {v : Value} {x m : Nat} (h : NatV W v x) (hx : x < BB ^ m) : LV W m v x := by
  obtain ⟨A, n, c, l, rfl, h1, h2⟩ := h
  exact ⟨A, n, c, l, rfl, h2, h1.lt, by rw [← h2.len]; exact h1.len hx, h1.val⟩
/-- A call's answer: a number. -/
def RetN (w : World) (x : Nat) : Ending → World → Prop := fun e w' => ∃ v, e = .returned v ∧ NatV w' v x ∧ Below w.heap.size w w'
theorem RetNat.v {w : World} {x : Nat} {e : Ending} {w' : World} (h : RetNat w x e w') : RetN w x e w' := by
  obtain ⟨A, n, c, l, rfl, h1, h2, h3⟩ := h
  exact ⟨_, rfl, ⟨A, n, c, l, rfl, h1, h2⟩, h3⟩

theorem gcd_v {W : World} {m : Nat} {v v' : Value} {a b : Nat} (h : LV W m v a) (h' : LV W m v' b) (hm : m ≤ 1000) (hT : Tab W) : Calls Tryd.prog 17 #[v, v'] W (RetN W (Nat.gcd a b)) := by
  obtain ⟨A, n, c, l, rfl, h1, h2, h3, rfl⟩ := h
  obtain ⟨A', n', c', l', rfl, h1', h2', h3', rfl⟩ := h'
  exact (gcd_any A n c l A' n' c' l' W h1 h1' h2 h2' (by omega) (by omega) hT).mono fun _ _ => RetNat.v
theorem mul_v {W : World} {m : Nat} {v v' : Value} {a b : Nat} (h : LV W m v a) (h' : LV W m v' b) (hm : m ≤ 40000) : Calls Tryd.prog 54 #[v, v'] W (RetN W (a * b)) := by
  obtain ⟨A, n, c, l, rfl, h1, h2, h3, rfl⟩ := h
  obtain ⟨A', n', c', l', rfl, h1', h2', h3', rfl⟩ := h'
  exact (mul_any A n c l A' n' c' l' W h1 h1' h2 h2' (by omega) (by omega)).mono fun _ _ => RetNat.v
/-- A call's answer: two numbers. -/
def RetN2 (w : World) (x y : Nat) : Ending → World → Prop := fun e w' => ∃ v v', e = .returned (.tuple #[v, v']) ∧ NatV w' v x ∧ NatV w' v' y ∧ Below w.heap.size w w'

theorem gcd_lt {a b m : Nat} (ha : a < BB ^ m) (hb : b < BB ^ m) : Nat.gcd a b < BB ^ m := by
  rcases Nat.eq_zero_or_pos a with rfl | h
  · rwa [Nat.gcd_zero_left]
  · exact Nat.lt_of_le_of_lt (Nat.gcd_le_left b h) ha

/-- The closure that divides by a number in its box. -/
theorem by1_any {m : Nat} {v vg : Value} {a g B : Nat} {W : World} (h : LV W m v a) (hg : LV W m vg g) (hm : m ≤ 1000) (hg0 : 0 < g) (hc : W.cell? ⟨B, 0, none⟩ = some vg) :
    Calls Tryd.prog 78 #[v, .pointer (some ⟨B, 0, none⟩)] W (RetN W (a / g)) := by
  obtain ⟨A, n, c, l, rfl, h1, h2, h3, h4⟩ := h
  obtain ⟨A', n', c', l', rfl, h1', h2', h3', h4'⟩ := hg
  have hd := qdiv_all a g hg0 A n c l A' n' c' l' W h1 h2 h1' h2' h4 h4' (by omega) (by omega)
  have H4 := hid h4; have H4' := hid h4'
  clear h4 h4'
  go_enter Tryd.func78, Tryd.ntmps78
  go_wp2_with fail
  refine hd.mono ?_
  rintro e w4 ⟨A4, n4, c4, l4, A5, n5, c5, l5, rfl, hi4, hr4, hi5, hr5, hb5⟩
  go_wp2_with fail
  go_ret
  exact ⟨_, rfl, ⟨A4, n4, c4, l4, rfl, hi4, hr4⟩, hb5⟩

theorem by_any (A : Option Addr) (n c : Nat) (w : World) :
    Calls Tryd.prog 48 #[.slice A n c] w fun e w' => e = .returned (.func (.func 78) #[] #[.pointer (some ⟨w.heap.size, 0, none⟩)]) ∧ w' = w.alloc (.cells #[.slice A n c] 23) := by
  go_enter Tryd.func48, Tryd.ntmps48
  go_wp2
  go_ret
  exact ⟨rfl, rfl⟩

set_option maxHeartbeats 1000000 in
theorem reduce_v {W : World} {m : Nat} {v v' : Value} {a b : Nat} (h : LV W m v a) (h' : LV W m v' b) (hm : m ≤ 1000) (hT : Tab W) : Calls Tryd.prog 12 #[v, v'] W (RetN2 W (a / Nat.gcd a b) (b / Nat.gcd a b)) := by
  have hgc := gcd_v h h' hm hT
  have hgl := gcd_lt h.bound h'.bound
  have hen : ∀ args w, (callFunc 78 args).run Tryd.prog w = .ok (.enter 78 args) w := enters_of Tryd.func78 (by kernel_rfl) rfl
  obtain ⟨g, hg⟩ : ∃ g, Nat.gcd a b = g := ⟨_, rfl⟩
  rw [hg] at hgc hgl ⊢
  rcases Nat.eq_zero_or_pos g with h0 | h0
  · have HZ := hid h0
    go_enter Tryd.func12, Tryd.ntmps12
    go_wp2_with fail
    refine hgc.mono ?_
    rintro e w4 ⟨v4, rfl, ⟨A4, n4, c4, l4, rfl, hi4, hr4⟩, hb4⟩
    obtain rfl : n4 = 0 := by rw [← hr4.len]; exact hi4.zero_iff.1 HZ.out
    go_wp2_with fail
    go_ret2
    exact ⟨_, _, rfl, ⟨none, 0, 0, [], rfl, by rw [HZ.out, Nat.div_zero]; exact Is.nil, Rd.nil_ _⟩, ⟨none, 0, 0, [], rfl, by rw [HZ.out, Nat.div_zero]; exact Is.nil, Rd.nil_ _⟩, hb4⟩
  · clear hg
    go_enter Tryd.func12, Tryd.ntmps12
    go_wp2_with fail
    refine hgc.mono ?_
    rintro e w4 ⟨v4, rfl, ⟨A4, n4, c4, l4, rfl, hi4, hr4⟩, hb4⟩
    have hn4 : 0 < n4 := by rw [← hr4.len]; exact hi4.pos_iff.1 h0
    have hb5 := hb4.trans ((Below.refl _ w4).alloc (Nat.le_refl _) (.cells #[.slice A4 n4 c4] 23) |>.mono hb4.size)
    have x5 := Boxed.new w4 23 (.slice A4 n4 c4)
    obtain ⟨W5, hW5⟩ : ∃ W5, w4.alloc (.cells #[.slice A4 n4 c4] 23) = W5 := ⟨_, rfl⟩
    rw [hW5] at hb5 x5
    have hg5 : LV W5 m (.slice A4 n4 c4) g := by rw [← hW5]; exact (NatV.lv ⟨A4, n4, c4, l4, rfl, hi4, hr4⟩ hgl).below ((Below.refl _ w4).alloc (Nat.le_refl _) _)
    have hby := by_any A4 n4 c4 w4
    rw [hW5] at hby
    clear hW5
    go_wp2_with fail
    refine hby.mono ?_
    rintro e w6 ⟨rfl, rfl⟩
    go_wp2_with fail
    refine (by1_any (h.below hb5) hg5 hm h0 x5.cell).mono ?_
    rintro e w7 ⟨v7, rfl, hv7, hb7⟩
    go_wp2_with fail
    refine (by1_any ((h'.below hb5).below hb7) (hg5.below hb7) hm h0 ((hb7.cell (p := ⟨w4.heap.size, 0, none⟩) (lt_of_cell x5.cell)).trans x5.cell)).mono ?_
    rintro e w8 ⟨v8, rfl, hv8, hb8⟩
    go_wp2_with fail
    go_ret2
    have t1 := hb5.trans (hb7.mono hb5.size)
    exact ⟨_, _, rfl, hv7.below hb8, hv8, t1.trans (hb8.mono t1.size)⟩

theorem lcm_v {W : World} {m : Nat} {v v' : Value} {a b : Nat} (h : LV W m v a) (h' : LV W m v' b) (hm : m ≤ 1000) (hT : Tab W) : Calls Tryd.prog 18 #[v, v'] W (RetN W (a / Nat.gcd a b * b)) := by
  have hr := reduce_v h h' hm hT
  have hlt : a / Nat.gcd a b < BB ^ m := Nat.lt_of_le_of_lt (Nat.div_le_self _ _) h.bound
  obtain ⟨x, hx⟩ : ∃ x, a / Nat.gcd a b = x := ⟨_, rfl⟩
  rw [hx] at hr hlt ⊢
  go_enter Tryd.func18, Tryd.ntmps18
  go_wp2_with fail
  refine hr.mono ?_
  rintro e w4 ⟨v4, v5, rfl, hv4, hv5, hb4⟩
  go_wp2_with fail
  refine (mul_v (hv4.lv hlt) (h'.below hb4) (by omega)).mono ?_
  rintro e w6 ⟨v6, rfl, hv6, hb6⟩
  go_wp2_with fail
  go_ret
  exact ⟨_, rfl, hv6, hb4.trans (hb6.mono hb4.size)⟩

theorem coprime_v {W : World} {m : Nat} {v v' : Value} {a b : Nat} (h : LV W m v a) (h' : LV W m v' b) (hm : m ≤ 1000) (hT : Tab W) : Calls Tryd.prog 16 #[v, v'] W fun e w' => e = .returned (.bool (Nat.gcd a b == 1)) ∧ Below W.heap.size W w' := by
  have hgc := gcd_v h h' hm hT
  obtain ⟨g, hg⟩ : ∃ g, Nat.gcd a b = g := ⟨_, rfl⟩
  rw [hg] at hgc ⊢
  clear hg
  have fin : isSmall g = false → (g == 1) = false := fun hs => beq_eq_false_iff_ne.2 (fun e => by subst e; cases hs)
  have fin2 : isSmall g = true → ((smallOf g : Int) == 1) = (g == 1) := fun hs => by
    have : smallOf g = g := if_pos (of_decide_eq_true hs)
    rw [this, Bool.eq_iff_iff]
    simp only [beq_iff_eq]; omega
  obtain ⟨sm1, h1⟩ : ∃ x, smallOf g = x := ⟨_, rfl⟩
  obtain ⟨r, hr⟩ : ∃ x, (g == 1) = x := ⟨_, rfl⟩
  rw [h1, hr] at fin2
  rw [hr] at fin ⊢
  cases hs : isSmall g
  all_goals
    have HF := hid (fin2)
    have HF1 := hid (fin)
    clear fin fin2
    go_enter Tryd.func16, Tryd.ntmps16
    go_wp2_with fail
    refine hgc.mono ?_
    rintro e w4 ⟨v4, rfl, ⟨A4, n4, c4, l4, rfl, hi4, hr4⟩, hb4⟩
    have hsm := small_any A4 n4 c4 l4 w4 hr4 hi4.lt
    rw [hi4.val, h1, hs] at hsm
    go_wp2_with fail
    refine hsm.mono ?_
    rintro e w5 ⟨rfl, rfl⟩
    go_wp2_with fail
    go_ret
    first | exact ⟨by rw [HF1.out hs]; rfl, hb4⟩ | exact ⟨by rw [← HF.out hs]; rfl, hb4⟩
end Go.Proofs.Wd

namespace Go.Proofs.Wd
open Go.RowKit Lb

set_option maxHeartbeats 400000 in
theorem r4same_any (A : Option Addr) (n c : Nat) (l : List Nat) (A' : Option Addr) (n' c' : Nat) (l' : List Nat) (w : World) (h : Rd w A n c l) (h' : Rd w A' n' c' l') :
    Calls Tryd.prog 13 #[.slice A n c, .slice A' n' c'] w fun e w' => e = .returned (.bool (decide (l = l'))) ∧ ∃ nq, w' = w.drewN nq := by
  have hle := h.le; have hcap := h.cap; have hle' := h'.le; have hcap' := h'.cap
  have HN : Hid (l.length = n ∧ l'.length = n') := ⟨h.len, h'.len⟩
  by_cases hnn : n = n'
  · subst hnn
    go_enter Tryd.func13, Tryd.ntmps13
    go_wp2
    go_loopw [5] (fun x wr => ∃ k : Nat, k ≤ n ∧ x = .int .i64 k ∧ (∃ nq, wr = w.drewN nq) ∧ Hid (∀ j, j < k → lm l j = lm l' j)) (fun x _ => n - (intOf x).toNat)
    case atStart => exact ⟨0, Nat.zero_le _, rfl, ⟨0, rfl⟩, hid (fun j hj => by omega)⟩
    case round =>
      obtain ⟨k, hk, rfl, ⟨nq, rfl⟩, HK⟩ := hrel
      by_cases h0 : k < n
      · obtain ⟨b, o, rfl, hc⟩ := h.cells k h0
        obtain ⟨b', o', rfl, hc'⟩ := h'.cells k h0
        have h0' : (0 : Int) ≤ k := Int.natCast_nonneg k
        by_cases h1 : lm l k = lm l' k
        · have hx : ((lm l k : Int) != (lm l' k : Int)) = false := by rw [h1]; simp
          go_wp2
          go_quiet (fail)
          go_wp2
          go_roundw
          case rel => exact ⟨k + 1, by omega, by go_num, ⟨_, rfl⟩, hid (fun j hj => by
            by_cases e : j = k
            · subst e; exact h1
            · exact HK.out j (by omega))⟩
          case measure => simp [intOf]; omega
        · have hx : ((lm l k : Int) != (lm l' k : Int)) = true := by simp only [bne_iff_ne, ne_eq]; omega
          have HV : Hid (decide (l = l') = false) := hid (decide_eq_false (same_not h1))
          clear h1
          go_wp2
          go_quiet (fail)
          go_wp2
          go_ret
          exact ⟨by rw [HV.out]; rfl, _, drew_drew w _ _⟩
      · obtain rfl : k = n := by omega
        have HV : Hid (decide (l = l') = true) := hid (decide_eq_true (same_all (by have := HN.out; omega) (fun j hj => HK.out j (by have := HN.out; omega))))
        go_wp2
        go_ret
        exact ⟨by rw [HV.out]; rfl, _, rfl⟩
  · have hx : ((n : Int) != (n' : Int)) = true := by simp only [bne_iff_ne, ne_eq]; omega
    have HV : Hid (decide (l = l') = false) := hid (decide_eq_false (fun e => by subst e; have := HN.out; omega))
    clear hnn
    go_enter Tryd.func13, Tryd.ntmps13
    go_wp2
    go_ret
    exact ⟨by rw [HV.out]; rfl, 0, rfl⟩
theorem below_dn {W : World} (nq : Nat) : Below W.heap.size W (W.drewN nq) := ⟨(Below.refl W.heap.size W).os, (Below.refl W.heap.size W).tape, (Below.refl W.heap.size W).output, (Below.refl W.heap.size W).size, (Below.refl W.heap.size W).block⟩
theorem r4same_t {W : World} {v v' : Value} {x y : Nat} (h : NatV W v x) (h' : NatV W v' y) (hxy : x = y) : Calls Tryd.prog 13 #[v, v'] W fun e w' => e = .returned (.bool true) ∧ Below W.heap.size W w' := by
  obtain ⟨A, n, c, l, rfl, h1, h2⟩ := h
  obtain ⟨A', n', c', l', rfl, h1', h2'⟩ := h'
  refine (r4same_any A n c l A' n' c' l' W h2 h2').mono ?_
  rintro e w' ⟨rfl, nq, rfl⟩
  have : l = l' := by subst hxy; exact h1.inj h1'
  exact ⟨by rw [decide_eq_true this], below_dn nq⟩

theorem is_one {l : List Nat} {x : Nat} (h : Is l x) (h0 : 0 < x) (h1 : x < BB) : l = [x] := by
  refine h.inj ⟨fun y hy => by simp at hy; omega, fun hn => by simp; omega, ?_⟩
  show sm (lm [x]) 1 = x
  simp [sm, lm]
/-- A number of one limb, in a new block. -/
theorem lit_lv (x : Nat) (hx : x < BB) (z : Int) (hz : z = x) (w : World) (t : TypeId) : LV (w.alloc (.cells #[.int .u32 z] t)) 1 (.slice (some ⟨w.heap.size, 0, none⟩) 1 1) x := by
  subst hz
  refine ⟨_, 1, 1, [x], rfl, Rd.new w [x] t #[.int .u32 (x : Int)] (by simp [u32s]) (by simp), fun y hy => by simp at hy; omega, Nat.le_refl _, ?_⟩
  show sm (lm [x]) 1 = x
  simp [sm, lm]
/-- A number of one limb, read. -/
theorem NatV.limb {W : World} {v : Value} {x : Nat} (h : NatV W v x) (h0 : 0 < x) (h1 : x < BB) : ∃ b o c, v = .slice (some ⟨b, o, none⟩) 1 c ∧ 1 ≤ c ∧ c ≤ 9223372036854775807 ∧ W.cell? ⟨b, o, none⟩ = some (.int .u32 x) := by
  obtain ⟨A, n, c, l, rfl, g1, g2⟩ := h
  have hl := is_one g1 h0 h1
  subst hl
  obtain rfl : n = 1 := g2.len.symm
  obtain ⟨b, o, rfl, hc⟩ := g2.cells 0 (by omega)
  exact ⟨b, o, c, rfl, g2.le, g2.cap, by simpa [lm] using hc⟩

theorem two_lits (x y : Nat) (hx : x < BB) (hy : y < BB) (z u : Int) (hz : z = x) (hu : u = y) (w : World) (t : TypeId) :
    LV ((w.alloc (.cells #[.int .u32 z] t)).alloc (.cells #[.int .u32 u] t)) 1 (.slice (some ⟨w.heap.size, 0, none⟩) 1 1) x ∧
    LV ((w.alloc (.cells #[.int .u32 z] t)).alloc (.cells #[.int .u32 u] t)) 1 (.slice (some ⟨w.heap.size + 1, 0, none⟩) 1 1) y ∧
    Below w.heap.size w ((w.alloc (.cells #[.int .u32 z] t)).alloc (.cells #[.int .u32 u] t)) := by
  refine ⟨(lit_lv x hx z hz w t).below ((Below.refl _ _).alloc (Nat.le_refl _) _), ?_, ((Below.refl _ w).alloc (Nat.le_refl _) _).alloc (by simp) _⟩
  have := lit_lv y hy u hu (w.alloc (.cells #[.int .u32 z] t)) t
  rwa [World.size_alloc] at this

set_option maxHeartbeats 1000000 in
theorem wakes4_any (w : World) (hT : Tab w) : Calls Tryd.prog 11 #[] w fun e w' => e = .returned (.bool true) ∧ Below w.heap.size w w' := by
  have a1 := hid (fun w => two_lits 12 18 (by decide) (by decide) 12 18 rfl rfl w 49)
  have a2 := hid (fun w => two_lits 4 6 (by decide) (by decide) 4 6 rfl rfl w 49)
  go_enter Tryd.func11, Tryd.ntmps11
  go_wp2_with fail
  obtain ⟨p1, p2, p3⟩ := a1.out w
  refine (gcd_v p1 p2 (by decide) (hT.below p3)).mono ?_
  rintro e w1 ⟨v1, rfl, hv1, b1⟩
  have c1 := p3.trans (b1.mono p3.size)
  go_wp2_with fail
  obtain ⟨q1, q2, q3⟩ := a1.out w1
  have c2 := c1.trans (q3.mono c1.size)
  refine (reduce_v q1 q2 (by decide) (hT.below c2)).mono ?_
  rintro e w2 ⟨v2, v3, rfl, hv2, hv3, b2⟩
  have c3 := c2.trans (b2.mono c2.size)
  have d2 := q3.trans (b2.mono q3.size)
  go_wp2_with fail
  obtain ⟨r1, r2, r3⟩ := a2.out w2
  have c4 := c3.trans (r3.mono c3.size)
  refine (lcm_v r1 r2 (by decide) (hT.below c4)).mono ?_
  rintro e w3 ⟨v4, rfl, hv4, b3⟩
  have d3 := r3.trans (b3.mono r3.size)
  have d4 := d2.trans (d3.mono d2.size)
  have c5 := c4.trans (b3.mono c4.size)
  have hv1' := hv1.below d4
  have hv2' := hv2.below d3
  have hv3' := hv3.below d3
  obtain ⟨x1, y1, z1, rfl, g1, g2, g3⟩ := hv1'.limb (by decide) (by decide)
  obtain ⟨x2, y2, z2, rfl, g4, g5, g6⟩ := hv2'.limb (by decide) (by decide)
  obtain ⟨x3, y3, z3, rfl, g7, g8, g9⟩ := hv3'.limb (by decide) (by decide)
  obtain ⟨x4, y4, z4, rfl, g10, g11, g12⟩ := hv4.limb (by decide) (by decide)
  have hc := coprime_v (hv2'.lv (m := 1) (by decide)) (hv3'.lv (m := 1) (by decide)) (by decide) (hT.below c5)
  rw [show (Nat.gcd (12 / Nat.gcd 12 18) (18 / Nat.gcd 12 18) == 1) = true from by decide] at hc
  rw [show Nat.gcd 12 18 = 6 from by decide] at g3
  rw [show 12 / Nat.gcd 12 18 = 2 from by decide] at g6
  rw [show 18 / Nat.gcd 12 18 = 3 from by decide] at g9
  rw [show 4 / Nat.gcd 4 6 * 6 = 12 from by decide] at g12
  go_wp2_with fail
  refine hc.mono ?_
  rintro e w5 ⟨rfl, b5⟩
  go_wp2_with fail
  go_ret
  exact ⟨rfl, c5.trans (b5.mono c5.size)⟩
end Go.Proofs.Wd

namespace Go.Proofs.Wd
open Go.RowKit Lb

theorem u32_and_one (x : Nat) (hx : x < 4294967296) : bits .and .u32 (x : Int) 1 = ((x % 2 : Nat) : Int) := by
  have h1 : (BitVec.ofInt 32 (x : Int)).toNat = x := by
    rw [BitVec.ofInt_natCast, BitVec.toNat_ofNat]; exact Nat.mod_eq_of_lt (by omega)
  show IntKind.u32.wrap ((BitVec.ofInt 32 (x : Int) &&& BitVec.ofInt 32 1).toNat : Int) = _
  rw [BitVec.toNat_and, h1, show (BitVec.ofInt 32 1).toNat = 1 from rfl, Nat.and_one_is_mod, IntKind.wrap_u32]
  omega

theorem rup1_any (A : Option Addr) (n c : Nat) (l : List Nat) (x : Nat) (w : World) (h : Rd w A n c l) (hi : Is l x) (hn : n ≤ 100000) :
    Calls Tryd.prog 55 #[.slice A n c, .int .i64 1] w (RetNat w (2 * x)) := by
  have := rup_any A n c l 0 1 w h hi.lt (by omega) (by omega) hn
  rw [hi.val, show x * 2 ^ (32 * 0 + 1) = 2 * x from Nat.mul_comm x 2] at this
  exact this

/-- What bit-by-bit division keeps: the quotient's limbs in block Q, the rest as a slice. -/
def RDivI (w : World) (Q n a b : Nat) (vr vi : Value) (W : World) : Prop :=
  ∃ (i : Nat) (lo : List Nat) (A : Option Addr) (nr c : Nat) (l : List Nat) (r : Nat), vi = .int .i64 ((i : Int) - 1) ∧ i ≤ 32 * n ∧ vr = .slice A nr c ∧ Is l r ∧ Rd W A nr c l ∧ Arr W Q lo ∧ lo.length = n ∧ Lt lo ∧ DivAt a b i (val lo) r ∧ Below w.heap.size w W

theorem rd_keep {W W' : World} {Q : Nat} {lo : List Nat} {A : Option Addr} {n c : Nat} {l : List Nat} (h : Rd W' A n c l) (_hb : Below W.heap.size W W') (_ha : Arr W' Q lo) (i : Nat) (v : Value) (hf : ∀ b o, A = some ⟨b, o, none⟩ → 0 < n → b ≠ Q) : Rd (W'.setCell ⟨Q, i, none⟩ v) A n c l :=
  ⟨h.len, h.le, h.cap, h.nil, fun k hk => by
    obtain ⟨b, o, e, hc⟩ := h.cells k hk
    exact ⟨b, o, e, (World.cell?_of_block (Below.heap_setCell W' ⟨Q, i, none⟩ v b (hf b o e (by omega)))).trans hc⟩⟩

/-- A bit set where there was none. -/
theorem set_bit {lo : List Nat} {i : Nat} (ht : Lt lo) (hlen : i / 32 < lo.length) (hz : val lo % 2 ^ (i + 1) = 0) :
    ∃ o z : Nat, lm lo (i / 32) = o ∧ o < 4294967296 ∧ bits .or .u32 (o : Int) ((2 ^ (i % 32) : Nat) : Int) = (z : Int) ∧ z < 4294967296 ∧ val (lo.set (i / 32) z) = val lo + 2 ^ i := by
  have hb := lm_BB ht (i / 32)
  have hl := low_zero ht i hz
  have ht32 : i % 32 < 32 := Nat.mod_lt _ (by omega)
  unfold BB at hb
  obtain ⟨o, ho⟩ : ∃ o, lm lo (i / 32) = o := ⟨_, rfl⟩
  obtain ⟨t, htt⟩ : ∃ t, i % 32 = t := ⟨_, rfl⟩
  rw [ho] at hb hl
  rw [htt] at hl ht32
  obtain ⟨g, hg⟩ := Nat.dvd_of_mod_eq_zero hl
  have hpos : 0 < 2 ^ t := Nat.pow_pos (by omega)
  have e32 : 2 ^ (t + 1) * 2 ^ (31 - t) = 4294967296 := by
    rw [← Nat.pow_add, show t + 1 + (31 - t) = 32 from by omega]
  have hor : o ||| 2 ^ t = o + 2 ^ t := by
    rw [hg, Nat.two_pow_add_eq_or_of_lt (i := t + 1) (b := 2 ^ t) (by rw [Nat.pow_succ]; omega)]
  have hgl : g < 2 ^ (31 - t) := by
    rw [hg, ← e32] at hb
    exact Nat.lt_of_mul_lt_mul_left hb
  have hlt : o + 2 ^ t < 4294967296 := by
    have h1 : 2 ^ (t + 1) * (g + 1) ≤ 2 ^ (t + 1) * 2 ^ (31 - t) := Nat.mul_le_mul_left _ hgl
    rw [e32, Nat.mul_add, ← hg, Nat.pow_succ] at h1
    omega
  have htl : 2 ^ t < 4294967296 := by omega
  refine ⟨o, o + 2 ^ t, ho, hb, ?_, hlt, ?_⟩
  · rw [htt, u32_or_nat _ _ (by omega) (by omega), hor]
  · have hs := val_set (l := lo) (j := i / 32) (v := o + 2 ^ t) hlen
    rw [ho, Nat.add_mul] at hs
    have e := pow_split i
    rw [htt, Nat.mul_comm] at e
    rw [e]
    omega

set_option maxRecDepth 100000 in
set_option maxHeartbeats 2000000 in
theorem rdiv_any (A : Option Addr) (n c : Nat) (l : List Nat) (A' : Option Addr) (n' c' : Nat) (l' : List Nat) (w : World) (h : Rd w A n c l) (h' : Rd w A' n' c' l') (ht : Lt l) (ht' : Lt l') (hn : n ≤ 10000) (hn' : n' ≤ 10000) (h0 : 0 < val l') :
    Calls Tryd.prog 19 #[.slice A n c, .slice A' n' c'] w (RetDiv w (val l) (val l')) := by
  have hle := h.le; have hcap := h.cap; have hle' := h'.le; have hcap' := h'.cap
  have HN := hid h.len; have HN' := hid h'.len
  have v1 := val_lt ht; have v2 := val_lt ht'
  rw [h.len] at v1; rw [h'.len] at v2
  have hmk : ∀ wx : World, (Instr.makeSlice 23 (.int .i64 (n : Int)) (.int .i64 (n : Int))).run Tryd.prog wx = .ok (.slice (some ⟨wx.heap.size, 0, none⟩) n n) (wx.alloc (.cells (madeCells #[.int .u32 0] n) 49)) := fun wx => run_make32 n (by omega) wx
  obtain ⟨a, ha⟩ : ∃ a, val l = a := ⟨_, rfl⟩
  obtain ⟨b, hb⟩ : ∃ b, val l' = b := ⟨_, rfl⟩
  have htr := fun (W : World) (hB : Below w.heap.size w W) => rtrim_any A' n' c' l' W (h'.below hB) ht' (by omega)
  rw [ha] at v1 ⊢
  rw [hb] at v2 h0 ⊢
  simp only [hb] at htr
  have HA := hid ha; have HB := hid hb
  clear ha hb
  go_enter Tryd.func19, Tryd.ntmps19
  go_wp2_with fail
  refine (htr _ (Below.refl _ _)).mono ?_
  rintro e w1 ⟨A1, n1, c1, l1, rfl, hi1, hr1, hb1⟩
  have hn1 : 0 < n1 := by rw [← hr1.len]; exact hi1.pos_iff.1 h0
  have hn1b : n1 ≤ n' := is_len hi1 hr1 v2
  go_wp2_with fail
  have bM : Below w.heap.size w (w1.alloc (.cells (madeCells #[.int .u32 0] n) 49)) := hb1.alloc hb1.size _
  have aM := Arr.new w1 n
  refine (htr _ bM).mono ?_
  rintro e w2 ⟨A2, n2, c2, l2, rfl, hi2, hr2, hb2⟩
  obtain rfl : n2 = n1 := by rw [← hr2.len, ← hr1.len, hi2.inj hi1]
  have hge1 : BB ^ (n2 - 1) ≤ b := by
    have := val_ge hi2.tr (by intro e; rw [e] at hi2; have := hi2.val; simp at this; omega)
    rwa [hr2.len, hi2.val] at this
  obtain ⟨m0, hm0⟩ : ∃ m0 : Nat, max (0 : Int) ((n : Int) - (n2 : Int) + 1) = (m0 : Int) := ⟨(max (0 : Int) ((n : Int) - (n2 : Int) + 1)).toNat, by omega⟩
  have hm1 : m0 ≤ n := by omega
  have hm2 : n - m0 ≤ n2 - 1 := by omega
  have hB2 := bM.trans (hb2.mono bM.size)
  have aM2 : Arr w2 w1.heap.size (List.replicate n 0) := aM.kept (hb2.block _ aM.lt)
  have hsl := fun wx => run_slice_from A n c m0 hm1 wx
  have hrd := (h.below hB2).drop hm1
  have hv0 : val (l.drop m0) = a / BB ^ m0 := by
    have e1 := val_take_drop l m0 (by have := HN.out; omega)
    have e2 := val_lt (Lt_take ht m0)
    rw [List.length_take, Nat.min_eq_left (by have := HN.out; omega)] at e2
    rw [← HA.out, e1, Nat.add_mul_div_left _ _ (pow_pos' m0), Nat.div_eq_of_lt e2, Nat.zero_add]
  have hvb : a / BB ^ m0 < b := by
    rw [← hv0]
    have e1 := val_lt (Lt_drop ht m0)
    rw [List.length_drop, HN.out] at e1
    exact Nat.lt_of_lt_of_le e1 (Nat.le_trans (Nat.pow_le_pow_right BB_pos hm2) hge1)
  obtain ⟨Ad, hAd⟩ : ∃ Ad, (if c = m0 then A else A.map (·.add m0)) = Ad := ⟨_, rfl⟩
  rw [hAd] at hrd
  simp only [hAd] at hsl
  have HV0 := hid hv0
  clear hAd hv0 hge1
  have hld : ([] : List Nat).length + (l.drop m0).length ≤ 17592186044416 := by have := HN.out; simp; omega
  have hl1 : ([] ++ l.drop m0).length = n - m0 := by have := HN.out; simp; omega
  have hown : Own32 (w2.alloc (.cells #[] 49)) w2.heap.size 49 (.slice (some ⟨w2.heap.size, 0, none⟩) 0 0) [] := World.ownsRow_made (base := w2.heap.size) (e := 49) (size := 1) w2 #[] 0 (Nat.le_refl _) (by unfold maxLen; omega) rfl
  have hrd1 := hrd.alloc (.cells #[] 49)
  go_wp2_with (at_builtin; refine wpList_append_rd rfl _ _ 23 49 rfl u32_under u32_info w2.heap.size _ [] rfl hown _ (n - m0) (c - m0) (l.drop m0) rfl hrd1 hld (by simp) ?_; intro v3 w3 hown3 hg3 hat3; obtain ⟨A3, c3, rfl⟩ := hown3.form' hl1)
  rw [List.nil_append] at hown3
  have hb3 := Own32.grown ((Below.refl w2.heap.size w2).alloc (Nat.le_refl _) _) hown hg3 (Nat.le_refl _) (by simp)
  have hB3 := hB2.trans (hb3.mono hB2.size)
  have htr3 := rtrim_any A3 (n - m0) c3 (l.drop m0) w3 hown3.rd (Lt_drop ht m0) (by omega)
  rw [HV0.out] at htr3
  refine htr3.mono ?_
  rintro e w4 ⟨A4, n4, c4, l4, rfl, hi4, hr4, hb4⟩
  have hB4 := hB3.trans (hb4.mono hB3.size)
  have d24 := hb3.trans (hb4.mono hb3.size)
  have a4 : Arr w4 w1.heap.size (List.replicate n 0) := aM2.kept (d24.block _ aM2.lt)
  have hD0 : DivAt a b (32 * m0) (val (List.replicate n 0)) (a / BB ^ m0) := by
    rw [val_replicate, BB_pow]
    exact DivAt.start (by rw [← BB_pow]; exact hvb)
  have HD0 := hid hD0
  have hQ : w.heap.size ≤ w1.heap.size := hb1.size
  clear hD0 hmk hsl hown hown3 hg3 hat3 hrd hrd1 htr3 hb3 hb4 hB2 hB3 d24 aM aM2 bM hb1 hb2 hr1 hr2 hi1 hi2 hld hl1 hm2 hvb
  generalize w1.heap.size = Q at *
  go_wp2
  go_loopw [9, 10] (RDivI w Q n a b) (fun _ i _ => (intOf i + 1).toNat)
  case atStart => exact ⟨32 * m0, List.replicate n 0, A4, n4, c4, l4, _, by go_num, by omega, rfl, hi4, hr4, a4, by simp, Lt_replicate _, HD0.out, hB4⟩
  case round =>
    clear hi4 hr4 a4 hB4 HD0
    obtain ⟨i, lo, Ar, nr, cr, lr, r, rfl, hin, rfl, hir, hrr, haQ, hlo, hlt, hDv, hB⟩ := hrel
    have HDV := hid hDv; have HLO := hid hlo
    clear hDv hlo
    rcases Nat.eq_zero_or_pos i with rfl | hi0
    · have hfin := HDV.out.done
      have HF := hid hfin
      clear hfin
      have t1 := rtrim_any (some ⟨Q, 0, none⟩) n n lo wr (haQ.rd HLO.out (by omega)) hlt (by omega)
      rw [HF.out.1] at t1
      have nrl : nr ≤ n' := is_len hir hrr (Nat.lt_trans HDV.out.less v2)
      have t2 := fun (W : World) (hb : Below wr.heap.size wr W) => rtrim_any Ar nr cr lr W (hrr.below hb) hir.lt (by omega)
      rw [hir.val, HF.out.2] at t2
      go_wp2_with fail
      refine t1.mono ?_
      rintro e w5 ⟨A5, n5, c5, l5, rfl, hi5, hr5, hb5⟩
      go_wp2_with fail
      refine (t2 _ hb5).mono ?_
      rintro e w6 ⟨A6, n6, c6, l6, rfl, hi6, hr6, hb6⟩
      go_wp2_with fail
      go_ret3
      have t3 := hB.trans (hb5.mono hB.size)
      exact ⟨A5, n5, c5, l5, A6, n6, c6, l6, rfl, hi5, hr5.below hb6, hi6, hr6, t3.trans (hb6.mono t3.size)⟩
    · obtain ⟨j, rfl⟩ : ∃ j, i = j + 1 := ⟨i - 1, by omega⟩
      have ej : ((j + 1 : Nat) : Int) - 1 = (j : Int) := by omega
      rw [ej]
      have hjn : j / 32 < n := by omega
      have hbv := bit_val ht j
      rw [HA.out] at hbv
      have hnx := HDV.out.next
      have hsb := set_bit (i := j) hlt (by have := HLO.out; omega) HDV.out.low
      have hlow := HDV.out.low
      have hless := HDV.out.less
      have hr' := h.below hB
      obtain ⟨bb, oo, rfl, hcb⟩ := hr'.cells (j / 32) hjn
      have x1 := lm_BB ht (j / 32)
      simp only [BB] at x1
      obtain ⟨x, hx⟩ : ∃ x, lm l (j / 32) = x := ⟨_, rfl⟩
      rw [hx] at x1 hcb hbv
      obtain ⟨t, hte⟩ : ∃ t, j % 32 = t := ⟨_, rfl⟩
      have ht32 : t < 32 := by omega
      obtain ⟨cb, hcbe⟩ : ∃ cb, a / 2 ^ j % 2 = cb := ⟨_, rfl⟩
      have hcb2 : cb < 2 := by omega
      rw [hte, hcbe] at hbv
      rw [hcbe] at hnx
      rw [hte] at hsb
      obtain ⟨o, z, ho, ho2, hoz, hz2, hvz⟩ := hsb
      have j1 : (j : Int).tdiv 32 = ((j / 32 : Nat) : Int) := by rw [Int.tdiv_eq_ediv_of_nonneg (by omega)]; omega
      have j2 : (j : Int) / 32 = ((j / 32 : Nat) : Int) := by omega
      have j3 : (j : Int).tmod 32 = (t : Int) := by rw [Int.tmod_eq_emod_of_nonneg (by omega)]; omega
      have j4 : (j : Int) % 32 = (t : Int) := by omega
      obtain ⟨jq, hjq⟩ : ∃ jq, j / 32 = jq := ⟨_, rfl⟩
      rw [hjq] at j1 j2 hjn hcb ho hvz
      have gq : wr.cell? ⟨Q, jq, none⟩ = some (.int .u32 (o : Int)) := by have := haQ.cell (i := jq) (by have := HLO.out; omega); rwa [ho] at this
      have gf := haQ.frozen jq
      obtain ⟨y, hy⟩ : ∃ y, x / 2 ^ t = y := ⟨_, rfl⟩
      have hshr : (x : Int) / 2 ^ t = (y : Int) := by
        rw [← hy, Int.natCast_ediv, Int.natCast_pow]
        rfl
      have hyl : y < 4294967296 := by rw [← hy]; exact Nat.lt_of_le_of_lt (Nat.div_le_self _ _) x1
      rw [hy] at hbv
      have hand := u32_and_one y hyl
      rw [hbv] at hand
      obtain ⟨pt, hpt⟩ : ∃ pt, 2 ^ t = pt := ⟨_, rfl⟩
      rw [hpt] at hoz
      have hptl : pt < 4294967296 := by rw [← hpt]; exact Nat.lt_of_le_of_lt (Nat.pow_le_pow_right (by omega) (show t ≤ 31 by omega)) (by decide)
      have hshl : (2 : Int) ^ t % 4294967296 = (pt : Int) := by
        rw [← hpt, Int.natCast_pow]
        have : ((2 ^ t : Nat) : Int) < 4294967296 := by rw [hpt]; omega
        rw [Int.natCast_pow] at this
        exact Int.emod_eq_of_lt (Int.pow_nonneg (by omega)) this
      have nrl : nr ≤ n' := is_len hir hrr (Nat.lt_trans hless v2)
      have HNX := hid hnx; have HVZ := hid hvz; have HLOW := hid hlow
      have hup := rup1_any Ar nr cr lr r wr hrr hir (by omega)
      clear hx hte hcbe ho hjq hy hpt hnx hvz hlow hbv ej HDV
      have hcs : (cb = 0 ∨ cb = 1) := by omega
      have hfin : ∀ (W : World) (i' : Int) (lo' : List Nat) (q' r' : Nat) (A7 : Option Addr) (n7 c7 : Nat) (l7 : List Nat), i' = (j : Int) - 1 → lo'.length = n → Lt lo' → val lo' = q' → DivAt a b j q' r' → Is l7 r' → Rd W A7 n7 c7 l7 → Arr W Q lo' → Below w.heap.size w W → RDivI w Q n a b (.slice A7 n7 c7) (.int .i64 i') W := by
        rintro W i' lo' q' r' A7 n7 c7 l7 rfl g1 g2 rfl g4 g5 g6 g7 g8
        exact ⟨j, lo', A7, n7, c7, l7, r', rfl, by omega, rfl, g5, g6, g7, g1, g2, g4, g8⟩
      have HFIN := hid hfin
      clear hfin
      rcases hcs with rfl | rfl
      · obtain ⟨k1, k2⟩ := HNX.out
        have K1 := hid k1; have K2 := hid k2
        clear k1 k2 HNX
        have hbq : ((0 : Nat) : Int) = 0 := rfl
        rw [hbq] at hand
        clear hbq
        have hup2 : 2 * r < BB ^ (n' + 1) := by rw [Nat.pow_succ]; unfold BB at *; omega
        rcases Nat.lt_or_ge (2 * r + 0) b with hlt2 | hge2
        · have D1 := hid (K1.out hlt2)
          go_wp2_with fail
          refine hup.mono ?_
          rintro e w5 ⟨A5, n5, c5, l5, rfl, hi5, hr5, hb5⟩
          have n5l : n5 ≤ n' + 1 := is_len hi5 hr5 hup2
          have hcb5 : w5.cell? ⟨bb, oo + jq, none⟩ = some (.int .u32 (x : Int)) := (hb5.cell (p := ⟨bb, oo + jq, none⟩) (lt_of_cell hcb)).trans hcb
          have aQ5 : Arr w5 Q lo := haQ.kept (hb5.block _ haQ.lt)
          have B5 := hB.trans (hb5.mono hB.size)
          have hsu := rsub_less A5 n5 c5 l5 A' n' c' l' w5 hr5 (h'.below B5) hi5.lt ht' (by rw [hi5.val, HB.out]; omega)
          go_wp2_with fail
          refine hsu.mono ?_
          rintro e w7 ⟨rfl, rfl⟩
          go_wp2_with fail
          go_roundw
          case rel => exact HFIN.out _ _ lo _ _ _ _ _ _ (by go_num) HLO.out hlt rfl D1.out hi5 hr5 aQ5 B5
          case measure => simp [intOf]
        · have D2 := hid (K2.out hge2)
          go_wp2_with fail
          refine hup.mono ?_
          rintro e w5 ⟨A5, n5, c5, l5, rfl, hi5, hr5, hb5⟩
          have n5l : n5 ≤ n' + 1 := is_len hi5 hr5 hup2
          have hcb5 : w5.cell? ⟨bb, oo + jq, none⟩ = some (.int .u32 (x : Int)) := (hb5.cell (p := ⟨bb, oo + jq, none⟩) (lt_of_cell hcb)).trans hcb
          have aQ5 : Arr w5 Q lo := haQ.kept (hb5.block _ haQ.lt)
          have B5 := hB.trans (hb5.mono hB.size)
          have hsu := rsub_own A5 n5 c5 l5 A' n' c' l' w5 hr5 (h'.below B5) hi5.lt ht' (by rw [hi5.val, HB.out]; omega) (by omega)
          rw [hi5.val, HB.out] at hsu
          go_wp2_with fail
          refine hsu.mono ?_
          rintro e w7 ⟨A7, n7, c7, l7, rfl, hi7, ho7, hb7⟩
          have hr7 := ho7.rd; have hf7 := own_fresh ho7
          clear ho7
          have aQ7 : Arr w7 Q lo := aQ5.kept (hb7.block _ aQ5.lt)
          have B7 := B5.trans (hb7.mono B5.size)
          have gq7 : w7.cell? ⟨Q, jq, none⟩ = some (.int .u32 (o : Int)) := (World.cell?_of_block (show w7.heap[Q]? = wr.heap[Q]? from (show w7.heap[Q]? = _ from aQ7).trans (show wr.heap[Q]? = _ from haQ).symm)).trans gq
          have gf7 := aQ7.frozen jq
          have HEND : Hid (RDivI w Q n a b (.slice A7 n7 c7) (.int .i64 ((j : Int) - 1)) (w7.setCell ⟨Q, jq, none⟩ (.int .u32 (z : Int)))) := hid (HFIN.out _ _ (lo.set jq z) _ _ _ _ _ _ rfl (by rw [List.length_set]; exact HLO.out) (Lt_set hlt hz2) HVZ.out D2.out hi7 (rd_keep hr7 hb7 aQ7 jq _ (fun b o e _ => by have := hf7 b o e; have := aQ5.lt; omega)) (aQ7.set jq z) (B7.setCell (p := ⟨Q, jq, none⟩) hQ _))
          go_wp2_with fail
          exact ⟨HEND.out, by simp [intOf]⟩
      · obtain ⟨k1, k2⟩ := HNX.out
        have K1 := hid k1; have K2 := hid k2
        clear k1 k2 HNX
        have hbq : ((1 : Nat) : Int) = 1 := rfl
        rw [hbq] at hand
        clear hbq
        have hup2 : 2 * r < BB ^ (n' + 1) := by rw [Nat.pow_succ]; unfold BB at *; omega
        rcases Nat.lt_or_ge (2 * r + 1) b with hlt2 | hge2
        · have D1 := hid (K1.out hlt2)
          go_wp2_with fail
          refine hup.mono ?_
          rintro e w5 ⟨A5, n5, c5, l5, rfl, hi5, hr5, hb5⟩
          have n5l : n5 ≤ n' + 1 := is_len hi5 hr5 hup2
          have hcb5 : w5.cell? ⟨bb, oo + jq, none⟩ = some (.int .u32 (x : Int)) := (hb5.cell (p := ⟨bb, oo + jq, none⟩) (lt_of_cell hcb)).trans hcb
          have aQ5 : Arr w5 Q lo := haQ.kept (hb5.block _ haQ.lt)
          have B5 := hB.trans (hb5.mono hB.size)
          have r1 := Rd.one w5 1 49
          have ds := Rds.two (hr5.alloc (.cells #[.int .u32 1] 49)) hi5.lt (by omega) r1 (fun y hy => by simp at hy; subst hy; decide) (by decide) 23
          have bS : Below w5.heap.size w5 ((w5.alloc (.cells #[.int .u32 1] 49)).alloc (.cells #[.slice A5 n5 c5, .slice (some ⟨w5.heap.size, 0, none⟩) 1 1] 23)) := ((Below.refl _ w5).alloc (Nat.le_refl _) _).alloc (by simp) _
          have had := radd_any _ 2 2 _ _ ds (by decide)
          simp only [List.map_cons, List.map_nil, List.sum_cons, List.sum_nil, hi5.val, show val [1] = 1 from rfl, Nat.add_zero, World.size_alloc] at had
          go_wp2_with fail
          refine had.mono ?_
          rintro e w6 ⟨A6, n6, c6, l6, rfl, hi6, hr6, hb6⟩
          have b56 := bS.trans (hb6.mono bS.size)
          have n6l : n6 ≤ n' + 2 := is_len hi6 hr6 (by rw [Nat.pow_succ]; unfold BB at *; omega)
          have aQ6 : Arr w6 Q lo := aQ5.kept (b56.block _ aQ5.lt)
          have B6 := B5.trans (b56.mono B5.size)
          have hsu := rsub_less A6 n6 c6 l6 A' n' c' l' w6 hr6 (h'.below B6) hi6.lt ht' (by rw [hi6.val, HB.out]; omega)
          go_wp2_with fail
          refine hsu.mono ?_
          rintro e w7 ⟨rfl, rfl⟩
          go_wp2_with fail
          go_roundw
          case rel => exact HFIN.out _ _ lo _ _ _ _ _ _ (by go_num) HLO.out hlt rfl D1.out hi6 hr6 aQ6 B6
          case measure => simp [intOf]
        · have D2 := hid (K2.out hge2)
          go_wp2_with fail
          refine hup.mono ?_
          rintro e w5 ⟨A5, n5, c5, l5, rfl, hi5, hr5, hb5⟩
          have n5l : n5 ≤ n' + 1 := is_len hi5 hr5 hup2
          have hcb5 : w5.cell? ⟨bb, oo + jq, none⟩ = some (.int .u32 (x : Int)) := (hb5.cell (p := ⟨bb, oo + jq, none⟩) (lt_of_cell hcb)).trans hcb
          have aQ5 : Arr w5 Q lo := haQ.kept (hb5.block _ haQ.lt)
          have B5 := hB.trans (hb5.mono hB.size)
          have r1 := Rd.one w5 1 49
          have ds := Rds.two (hr5.alloc (.cells #[.int .u32 1] 49)) hi5.lt (by omega) r1 (fun y hy => by simp at hy; subst hy; decide) (by decide) 23
          have bS : Below w5.heap.size w5 ((w5.alloc (.cells #[.int .u32 1] 49)).alloc (.cells #[.slice A5 n5 c5, .slice (some ⟨w5.heap.size, 0, none⟩) 1 1] 23)) := ((Below.refl _ w5).alloc (Nat.le_refl _) _).alloc (by simp) _
          have had := radd_any _ 2 2 _ _ ds (by decide)
          simp only [List.map_cons, List.map_nil, List.sum_cons, List.sum_nil, hi5.val, show val [1] = 1 from rfl, Nat.add_zero, World.size_alloc] at had
          go_wp2_with fail
          refine had.mono ?_
          rintro e w6 ⟨A6, n6, c6, l6, rfl, hi6, hr6, hb6⟩
          have b56 := bS.trans (hb6.mono bS.size)
          have n6l : n6 ≤ n' + 2 := is_len hi6 hr6 (by rw [Nat.pow_succ]; unfold BB at *; omega)
          have aQ6 : Arr w6 Q lo := aQ5.kept (b56.block _ aQ5.lt)
          have B6 := B5.trans (b56.mono B5.size)
          have hsu := rsub_own A6 n6 c6 l6 A' n' c' l' w6 hr6 (h'.below B6) hi6.lt ht' (by rw [hi6.val, HB.out]; omega) (by omega)
          rw [hi6.val, HB.out] at hsu
          go_wp2_with fail
          refine hsu.mono ?_
          rintro e w7 ⟨A7, n7, c7, l7, rfl, hi7, ho7, hb7⟩
          have hr7 := ho7.rd; have hf7 := own_fresh ho7
          clear ho7
          have aQ7 : Arr w7 Q lo := aQ6.kept (hb7.block _ aQ6.lt)
          have B7 := B6.trans (hb7.mono B6.size)
          have gq7 : w7.cell? ⟨Q, jq, none⟩ = some (.int .u32 (o : Int)) := (World.cell?_of_block (show w7.heap[Q]? = wr.heap[Q]? from (show w7.heap[Q]? = _ from aQ7).trans (show wr.heap[Q]? = _ from haQ).symm)).trans gq
          have gf7 := aQ7.frozen jq
          have HEND : Hid (RDivI w Q n a b (.slice A7 n7 c7) (.int .i64 ((j : Int) - 1)) (w7.setCell ⟨Q, jq, none⟩ (.int .u32 (z : Int)))) := hid (HFIN.out _ _ (lo.set jq z) _ _ _ _ _ _ rfl (by rw [List.length_set]; exact HLO.out) (Lt_set hlt hz2) HVZ.out D2.out hi7 (rd_keep hr7 hb7 aQ7 jq _ (fun b o e _ => by have := hf7 b o e; have := aQ6.lt; omega)) (aQ7.set jq z) (B7.setCell (p := ⟨Q, jq, none⟩) hQ _))
          go_wp2_with fail
          exact ⟨HEND.out, by simp [intOf]⟩
end Go.Proofs.Wd

namespace Go.Proofs.Wd
open Go.RowKit Lb

theorem LV.open {W : World} {m : Nat} {v : Value} {x : Nat} (h : LV W m v x) : ∃ A n c, v = .slice A n c ∧ n ≤ m ∧ n ≤ c ∧ c ≤ 9223372036854775807 ∧ LV W m (.slice A n c) x := by
  obtain ⟨A, n, c, l, rfl, h1, h2, h3, h4⟩ := h
  exact ⟨A, n, c, rfl, h3, h1.le, h1.cap, ⟨A, n, c, l, rfl, h1, h2, h3, h4⟩⟩
/-- A call's answer: a quotient, a rest, that it is well. -/
def RetDN (w : World) (a b : Nat) : Ending → World → Prop := fun e w' => ∃ v v', e = .returned (.tuple #[v, v', .int .i64 0]) ∧ NatV w' v (a / b) ∧ NatV w' v' (a % b) ∧ Below w.heap.size w w'
theorem rdiv_v {W : World} {m : Nat} {v v' : Value} {a b : Nat} (h : LV W m v a) (h' : LV W m v' b) (hm : m ≤ 10000) (h0 : 0 < b) : Calls Tryd.prog 19 #[v, v'] W (RetDN W a b) := by
  obtain ⟨A, n, c, l, rfl, h1, h2, h3, rfl⟩ := h
  obtain ⟨A', n', c', l', rfl, h1', h2', h3', rfl⟩ := h'
  refine (rdiv_any A n c l A' n' c' l' W h1 h1' h2 h2' (by omega) (by omega) h0).mono ?_
  rintro e w' ⟨A1, n1, c1, l1, A2, n2, c2, l2, rfl, i1, r1, i2, r2, hb⟩
  exact ⟨_, _, rfl, ⟨A1, n1, c1, l1, rfl, i1, r1⟩, ⟨A2, n2, c2, l2, rfl, i2, r2⟩, hb⟩
set_option maxHeartbeats 1000000 in
theorem rdiv_zero_v {W : World} {m : Nat} {v v' : Value} {b : Nat} (h' : LV W m v' b) (hm : m ≤ 10000) (h0 : b = 0) : Calls Tryd.prog 19 #[v, v'] W fun e w' => e = .returned (.tuple #[.slice none 0 0, .slice none 0 0, .int .i64 30]) ∧ Below W.heap.size W w' := by
  obtain ⟨A', n', c', l', rfl, h1', h2', h3', h4⟩ := h'
  have htr := rtrim_any A' n' c' l' W h1' h2' (by omega)
  rw [h4, h0] at htr
  clear h4 h0
  go_enter Tryd.func19, Tryd.ntmps19
  go_wp2_with fail
  refine htr.mono ?_
  rintro e w1 ⟨A1, n1, c1, l1, rfl, hi1, hr1, hb1⟩
  obtain rfl : n1 = 0 := by rw [← hr1.len]; exact hi1.zero_iff.1 rfl
  go_wp2_with fail
  go_ret3
  exact ⟨rfl, hb1⟩
theorem rcmp_v {W : World} {m : Nat} {v v' : Value} {a b : Nat} (h : LV W m v a) (h' : LV W m v' b) : Calls Tryd.prog 20 #[v, v'] W fun e w' => e = .returned (.int .i64 (cmpOf a b)) ∧ W = w' := by
  obtain ⟨A, n, c, l, rfl, h1, h2, h3, rfl⟩ := h
  obtain ⟨A', n', c', l', rfl, h1', h2', h3', rfl⟩ := h'
  exact rcmp_any A n c l A' n' c' l' W h1 h1' h2 h2'
theorem radd2_v {W : World} {m : Nat} {A : Option Addr} {n c : Nat} {A' : Option Addr} {n' c' : Nat} {x y : Nat} (h : LV W m (.slice A n c) x) (h' : LV W m (.slice A' n' c') y) (hm : m ≤ 10000) (t : TypeId) :
    Calls Tryd.prog 21 #[.slice (some ⟨W.heap.size, 0, none⟩) 2 2] (W.alloc (.cells #[.slice A n c, .slice A' n' c'] t)) (RetN (W.alloc (.cells #[.slice A n c, .slice A' n' c'] t)) (x + y)) := by
  obtain ⟨A1, n1, c1, l, e1, h1, h2, h3, rfl⟩ := h
  obtain ⟨A2, n2, c2, l', e2, h1', h2', h3', rfl⟩ := h'
  cases e1
  cases e2
  have := radd_any _ 2 2 _ _ (Rds.two h1 h2 (by omega) h1' h2' (by omega) t) (by decide)
  simp only [List.map_cons, List.map_nil, List.sum_cons, List.sum_nil, Nat.add_zero] at this
  exact this.mono fun _ _ => RetNat.v

/-- A slice of numbers. -/
def LSV (W : World) (m : Nat) (v : Value) (xs : List Nat) : Prop := ∃ A c ls, v = .slice A xs.length c ∧ Rds W A xs.length ls ∧ (∀ l ∈ ls, l.length ≤ m) ∧ ls.map val = xs
theorem LSV.below {W W' : World} {m : Nat} {v : Value} {xs : List Nat} (h : LSV W m v xs) (hb : Below W.heap.size W W') : LSV W' m v xs := by
  obtain ⟨A, c, ls, h1, h2, h3⟩ := h
  exact ⟨A, c, ls, h1, h2.below hb, h3⟩

/-- What the loop of All keeps. -/
def GallI (w : World) (m : Nat) (xs : List Nat) (vg vi : Value) (W : World) : Prop := ∃ k : Nat, k ≤ xs.length ∧ vi = .int .i64 k ∧ NatV W vg ((xs.take k).foldl Nat.gcd 0) ∧ (xs.take k).foldl Nat.gcd 0 < BB ^ m ∧ Below w.heap.size w W

theorem NatV.nil (W : World) : NatV W (.slice none 0 0) 0 := ⟨none, 0, 0, [], rfl, Is.nil, Rd.nil_ W⟩

set_option maxHeartbeats 1000000 in
theorem gall_v {W : World} {m : Nat} {v : Value} {xs : List Nat} (h : LSV W m v xs) (hm : m ≤ 1000) (hn : xs.length ≤ 1000) (hT : Tab W) : Calls Tryd.prog 25 #[v] W (RetN W (xs.foldl Nat.gcd 0)) := by
  obtain ⟨A, c, ls, rfl, hR, hl, hv⟩ := h
  have hlen : ls.length = xs.length := by rw [← hv, List.length_map]
  have HL := hid hlen; have HV := hid hv; have HM := hid hl
  clear hlen hv hl
  obtain ⟨N, hN⟩ : ∃ N, xs.length = N := ⟨_, rfl⟩
  rw [hN] at hn hR ⊢
  have HN := hid hN
  clear hN
  go_enter Tryd.func25, Tryd.ntmps25
  go_wp2
  go_loopw [2, 7] (GallI W m xs) (fun _ i _ => N - (intOf i).toNat)
  case atStart => exact ⟨0, Nat.zero_le _, rfl, NatV.nil W, Nat.pow_pos BB_pos, Below.refl _ _⟩
  case round =>
    obtain ⟨k, hk, rfl, hg, hgl, hB⟩ := hrel
    rw [HN.out] at hk
    obtain ⟨Ag, ng, cg, lg, rfl, hig, hrg⟩ := hg
    by_cases hkn : k < N
    · obtain ⟨b, o, Ai, ni, ci, li, rfl, hc, hli, hri, hlti, hni⟩ := (hR.below hB).cells k hkn
      have hmem : li ∈ ls := List.mem_of_getElem? hli
      have hlim := HM.out li hmem
      have hx : xs[k]? = some (val li) := by rw [← HV.out, List.getElem?_map, hli]; rfl
      have hstep : (xs.take (k + 1)).foldl Nat.gcd 0 = Nat.gcd ((xs.take k).foldl Nat.gcd 0) (val li) := by
        have hk2 : k < xs.length := by rw [HN.out]; exact hkn
        rw [List.take_succ_eq_append_getElem hk2, List.foldl_append]
        rw [List.getElem?_eq_getElem hk2] at hx
        injection hx with hx
        show Nat.gcd _ xs[k] = _
        rw [hx]
      obtain ⟨g, hge⟩ : ∃ g, (xs.take k).foldl Nat.gcd 0 = g := ⟨_, rfl⟩
      rw [hge] at hstep hig hgl
      have hvl : val li < BB ^ m := Nat.lt_of_lt_of_le (val_lt hlti) (Nat.pow_le_pow_right BB_pos hlim)
      have hgc := gcd_v (NatV.lv ⟨Ag, ng, cg, lg, rfl, hig, hrg⟩ hgl) (LV.mk hri hlti (m := m) (by rw [← hri.len]; exact hlim)) hm (hT.below hB)
      have hlt2 := gcd_lt hgl hvl
      have HS := hid hstep
      clear hx hstep hge
      go_wp2_with fail
      refine hgc.mono ?_
      rintro e w5 ⟨v5, rfl, hv5, hb5⟩
      go_wp2_with fail
      exact ⟨⟨k + 1, by rw [HN.out]; omega, by go_num, by rw [HS.out]; exact hv5, by rw [HS.out]; exact hlt2, hB.trans (hb5.mono hB.size)⟩, by simp [intOf]; omega⟩
    · obtain rfl : k = N := by omega
      have hall : xs.take k = xs := List.take_of_length_le (by rw [HN.out]; omega)
      rw [hall] at hig
      clear hall
      go_wp2
      go_ret
      exact ⟨_, rfl, ⟨Ag, ng, cg, lg, rfl, hig, hrg⟩, hB⟩

theorem LSV.two {W : World} {m : Nat} {A : Option Addr} {n c : Nat} {A' : Option Addr} {n' c' : Nat} {x y : Nat} (h : LV W m (.slice A n c) x) (h' : LV W m (.slice A' n' c') y) (hm : m ≤ 10000) (t : TypeId) :
    LSV (W.alloc (.cells #[.slice A n c, .slice A' n' c'] t)) m (.slice (some ⟨W.heap.size, 0, none⟩) 2 2) [x, y] := by
  obtain ⟨A1, n1, c1, l, e1, h1, h2, h3, rfl⟩ := h
  obtain ⟨A2, n2, c2, l', e2, h1', h2', h3', rfl⟩ := h'
  cases e1
  cases e2
  exact ⟨_, 2, [l, l'], rfl, Rds.two h1 h2 (by omega) h1' h2' (by omega) t, fun z hz => by simp at hz; rcases hz with rfl | rfl; exact (by rw [h1.len]; exact h3); exact (by rw [h1'.len]; exact h3'), rfl⟩
theorem LSV.three {W : World} {m : Nat} {A : Option Addr} {n c : Nat} {A' : Option Addr} {n' c' : Nat} {A'' : Option Addr} {n'' c'' : Nat} {x y z : Nat} (h : LV W m (.slice A n c) x) (h' : LV W m (.slice A' n' c') y) (h'' : LV W m (.slice A'' n'' c'') z) (hm : m ≤ 10000) (t : TypeId) :
    LSV (W.alloc (.cells #[.slice A n c, .slice A' n' c', .slice A'' n'' c''] t)) m (.slice (some ⟨W.heap.size, 0, none⟩) 3 3) [x, y, z] := by
  obtain ⟨A1, n1, c1, l, e1, h1, h2, h3, rfl⟩ := h
  obtain ⟨A2, n2, c2, l', e2, h1', h2', h3', rfl⟩ := h'
  obtain ⟨A3, n3, c3, l'', e3, h1'', h2'', h3'', rfl⟩ := h''
  cases e1
  cases e2
  cases e3
  exact ⟨_, 3, [l, l', l''], rfl, Rds.three h1 h2 (by omega) h1' h2' (by omega) h1'' h2'' (by omega) t, fun z hz => by simp at hz; rcases hz with rfl | rfl | rfl; exact (by rw [h1.len]; exact h3); exact (by rw [h1'.len]; exact h3'); exact (by rw [h1''.len]; exact h3''), rfl⟩
end Go.Proofs.Wd

namespace Go.Proofs.Wd
open Go.RowKit Lb

theorem red_swap (a b : Nat) : a / Nat.gcd a b * b = b / Nat.gcd a b * a := by
  have h1 := Nat.div_mul_cancel (Nat.gcd_dvd_left a b)
  have h2 := Nat.div_mul_cancel (Nat.gcd_dvd_right a b)
  generalize Nat.gcd a b = g at *
  have e1 : a / g * b = a / g * (b / g * g) := by rw [h2]
  have e2 : b / g * a = b / g * (a / g * g) := by rw [h1]
  rw [e1, e2, ← Nat.mul_assoc, ← Nat.mul_assoc, Nat.mul_comm (a / g)]
theorem red_cop {a b : Nat} (h : 0 < Nat.gcd a b) : Nat.gcd (a / Nat.gcd a b) (b / Nat.gcd a b) = 1 := by
  rw [Nat.gcd_div (Nat.gcd_dvd_left a b) (Nat.gcd_dvd_right a b), Nat.div_self h]
theorem red_lcm (a b : Nat) : a / Nat.gcd a b * b * Nat.gcd a b = a * b := by
  rw [Nat.mul_assoc, Nat.mul_comm b, ← Nat.mul_assoc, Nat.div_mul_cancel (Nat.gcd_dvd_left a b)]

theorem rmul_v {W : World} {m : Nat} {v v' : Value} {a b : Nat} (h : LV W m v a) (h' : LV W m v' b) (hm : m ≤ 100000) : Calls Tryd.prog 14 #[v, v'] W (RetN W (a * b)) := by
  obtain ⟨A, n, c, l, rfl, h1, h2, h3, rfl⟩ := h
  obtain ⟨A', n', c', l', rfl, h1', h2', h3', rfl⟩ := h'
  exact (rmul_any A n c l A' n' c' l' W h1 h1' h2 h2' (by omega) (by omega)).mono fun _ _ => RetNat.v
theorem rtrim_v {W : World} {m : Nat} {v : Value} {a : Nat} (h : LV W m v a) (hm : m ≤ 100000) : Calls Tryd.prog 15 #[v] W (RetN W a) := by
  obtain ⟨A, n, c, l, rfl, h1, h2, h3, rfl⟩ := h
  exact (rtrim_any A n c l W h1 h2 (by omega)).mono fun _ _ => RetNat.v
theorem NatV.open {W : World} {v : Value} {x : Nat} (h : NatV W v x) : ∃ A n c, v = .slice A n c ∧ (x = 0 → n = 0) ∧ (0 < x → 0 < n) ∧ n ≤ c ∧ c ≤ 9223372036854775807 ∧ NatV W (.slice A n c) x := by
  obtain ⟨A, n, c, l, rfl, h1, h2⟩ := h
  have h3 := h1.zero_iff; have h4 := h1.pos_iff
  rw [h2.len] at h3 h4
  exact ⟨A, n, c, rfl, h3.1, h4.1, h2.le, h2.cap, ⟨A, n, c, l, rfl, h1, h2⟩⟩

set_option maxHeartbeats 2000000 in
theorem reduces_any (A : Option Addr) (n c : Nat) (l : List Nat) (A' : Option Addr) (n' c' : Nat) (l' : List Nat) (w : World) (h : Rd w A n c l) (ht : Lt l) (h' : Rd w A' n' c' l') (ht' : Lt l') (hT : Tab w) :
    Calls Tryd.prog 3 #[.slice A n c, .slice A' n' c'] w fun e w' => e = .returned (.bool true) ∧ Below w.heap.size w w' := by
  have hle := h.le; have hcap := h.cap; have hle' := h'.le; have hcap' := h'.cap
  obtain ⟨M, hM⟩ : ∃ M, max n n' = M := ⟨_, rfl⟩
  have hmax : max (n : Int) (n' : Int) = (M : Int) := by omega
  rcases Nat.lt_or_ge 8 M with hbig | hsm
  · clear hM
    go_enter Tryd.func3, Tryd.ntmps3
    go_wp2_with fail
    refine (wakes4_any _ hT).mono ?_
    rintro e w1 ⟨rfl, b1⟩
    go_wp2_with fail
    go_ret
    exact ⟨rfl, b1⟩
  have la : LV w 8 (.slice A n c) (val l) := LV.mk h ht (by omega)
  have lb : LV w 8 (.slice A' n' c') (val l') := LV.mk h' ht' (by omega)
  clear hM h h' ht ht'
  obtain ⟨a, ha⟩ : ∃ a, val l = a := ⟨_, rfl⟩
  obtain ⟨b, hb⟩ : ∃ b, val l' = b := ⟨_, rfl⟩
  rw [ha] at la
  rw [hb] at lb
  clear ha hb
  have hxa : a / Nat.gcd a b < BB ^ 8 := Nat.lt_of_le_of_lt (Nat.div_le_self _ _) la.bound
  have hyb : b / Nat.gcd a b < BB ^ 8 := Nat.lt_of_le_of_lt (Nat.div_le_self _ _) lb.bound
  have hgl := gcd_lt la.bound lb.bound
  have hml : a / Nat.gcd a b * b < BB ^ 16 := by
    rw [show (16 : Nat) = 8 + 8 from rfl, Nat.pow_add]
    exact Nat.mul_lt_mul_of_lt_of_le hxa (Nat.le_of_lt lb.bound) (Nat.pow_pos BB_pos)
  have hsw := red_swap a b
  have hcp := fun h0 => @red_cop a b h0
  have hlc := red_lcm a b
  have hda := Nat.div_mul_cancel (Nat.gcd_dvd_left a b)
  have hdb := Nat.div_mul_cancel (Nat.gcd_dvd_right a b)
  have hrd := fun (W : World) (hb : Below w.heap.size w W) => reduce_v (la.below hb) (lb.below hb) (by decide) (hT.below hb)
  have hgg := fun (W : World) (hb : Below w.heap.size w W) => gcd_v (la.below hb) (lb.below hb) (by decide) (hT.below hb)
  have hll := fun (W : World) (hb : Below w.heap.size w W) => lcm_v (la.below hb) (lb.below hb) (by decide) (hT.below hb)
  have hcc := fun (W : World) (hb : Below w.heap.size w W) => coprime_v (la.below hb) (lb.below hb) (by decide) (hT.below hb)
  have hga := Nat.eq_zero_of_gcd_eq_zero_left (m := a) (n := b)
  have hgb := Nat.eq_zero_of_gcd_eq_zero_right (m := a) (n := b)
  have hg0 : a = 0 → b = 0 → Nat.gcd a b = 0 := fun h1 h2 => by rw [h1, h2]; rfl
  obtain ⟨x, hx⟩ : ∃ x, a / Nat.gcd a b = x := ⟨_, rfl⟩
  obtain ⟨y, hy⟩ : ∃ y, b / Nat.gcd a b = y := ⟨_, rfl⟩
  have hx0 : a = 0 → b = 0 → x = 0 := fun h1 h2 => by rw [← hx, h1, Nat.zero_div]
  have hy0 : a = 0 → b = 0 → y = 0 := fun h1 h2 => by rw [← hy, h2, Nat.zero_div]
  simp only [hx, hy] at hxa hyb hml hsw hcp hlc hda hdb hrd hll
  obtain ⟨g, hg⟩ : ∃ g, Nat.gcd a b = g := ⟨_, rfl⟩
  obtain ⟨m, hm⟩ : ∃ m, x * b = m := ⟨_, rfl⟩
  simp only [hg] at hgl hcp hlc hda hdb hgg hcc hga hgb hg0
  rw [hm] at hml hlc
  simp only [hm] at hll
  have HSW := hid hsw; have HCP := hid hcp; have HLC := hid hlc; have HDA := hid hda; have HDB := hid hdb
  have HGA := hid hga; have HGB := hid hgb; have HG0 := hid hg0; have HX0 := hid hx0; have HY0 := hid hy0
  have HM := hid hm
  clear hsw hcp hlc hda hdb hga hgb hg0 hx0 hy0 hx hy hg hm
  have HRD := hid hrd; have HGG := hid hgg; have HLL := hid hll; have HCC := hid hcc
  clear hrd hgg hll hcc
  rcases (by omega : (a = 0 ∧ b = 0) ∨ 0 < a ∨ (a = 0 ∧ 0 < b)) with ⟨ha0, hb0⟩ | ha0 | ⟨ha0, hb0⟩
  · have HA := hid ha0; have HBZ := hid hb0; clear ha0 hb0
    go_enter Tryd.func3, Tryd.ntmps3
    go_wp2_with fail
    refine (HRD.out _ (Below.refl _ w)).mono ?_
    rintro e w1 ⟨vx, vy, rfl, hx, hy, b1⟩
    have d0_1 := b1
    have qx := HX0.out HA.out HBZ.out
    have qy := HY0.out HA.out HBZ.out
    obtain ⟨Ax, nx, cx, rfl, zx, px, ix, jx, hx⟩ := hx.open
    have rx := zx qx; subst rx; clear zx px qx
    obtain ⟨Ay, ny, cy, rfl, zy, py, iy, jy, hy⟩ := hy.open
    have ry := zy qy; subst ry; clear zy py qy
    go_wp2_with fail
    refine (rmul_v (hx.lv hxa) (lb.below d0_1) (by decide)).mono ?_
    rintro e w2 ⟨vxb, rfl, hxb, b2⟩
    have d0_2 := d0_1.trans (b2.mono d0_1.size)
    have d1_2 := b2
    go_wp2_with fail
    refine (rmul_v ((hy.below d1_2).lv hyb) (la.below d0_2) (by decide)).mono ?_
    rintro e w3 ⟨vya, rfl, hya, b3⟩
    have d0_3 := d0_2.trans (b3.mono d0_2.size)
    have d1_3 := d1_2.trans (b3.mono d1_2.size)
    have d2_3 := b3
    go_wp2_with fail
    refine (r4same_t (hxb.below d2_3) hya (by first | exact HSW.out | (rw [HM.out]; exact HSW.out))).mono ?_
    rintro e w4 ⟨rfl, b4⟩
    have d0_4 := d0_3.trans (b4.mono d0_3.size)
    have d1_4 := d1_3.trans (b4.mono d1_3.size)
    have d2_4 := d2_3.trans (b4.mono d2_3.size)
    have d3_4 := b4
    go_wp2_with fail
    refine (rtrim_v (la.below d0_4) (by decide)).mono ?_
    rintro e w5 ⟨vta, rfl, hta, b5⟩
    have d0_5 := d0_4.trans (b5.mono d0_4.size)
    have d1_5 := d1_4.trans (b5.mono d1_4.size)
    have d2_5 := d2_4.trans (b5.mono d2_4.size)
    have d3_5 := d3_4.trans (b5.mono d3_4.size)
    have d4_5 := b5
    obtain ⟨Ata, nta, cta, rfl, zta, pta, ita, jta, hta⟩ := hta.open
    have qta := zta HA.out; subst qta; clear zta pta
    go_wp2_with fail
    refine (rtrim_v (lb.below d0_5) (by decide)).mono ?_
    rintro e w6 ⟨vtb, rfl, htb, b6⟩
    have d0_6 := d0_5.trans (b6.mono d0_5.size)
    have d1_6 := d1_5.trans (b6.mono d1_5.size)
    have d2_6 := d2_5.trans (b6.mono d2_5.size)
    have d3_6 := d3_5.trans (b6.mono d3_5.size)
    have d4_6 := d4_5.trans (b6.mono d4_5.size)
    have d5_6 := b6
    obtain ⟨Atb, ntb, ctb, rfl, ztb, ptb, itb, jtb, htb⟩ := htb.open
    have qtb := ztb HBZ.out; subst qtb; clear ztb ptb
    have hcz := HCC.out w6 d0_6
    rw [show (g == 1) = false from by rw [HG0.out HA.out HBZ.out]; rfl] at hcz
    go_wp2_with fail
    refine (hcz).mono ?_
    rintro e w7 ⟨rfl, b7⟩
    have d0_7 := d0_6.trans (b7.mono d0_6.size)
    have d1_7 := d1_6.trans (b7.mono d1_6.size)
    have d2_7 := d2_6.trans (b7.mono d2_6.size)
    have d3_7 := d3_6.trans (b7.mono d3_6.size)
    have d4_7 := d4_6.trans (b7.mono d4_6.size)
    have d5_7 := d5_6.trans (b7.mono d5_6.size)
    have d6_7 := b7
    go_wp2_with fail
    refine (wakes4_any _ (hT.below d0_7)).mono ?_
    rintro e w8 ⟨rfl, b8⟩
    have d0_8 := d0_7.trans (b8.mono d0_7.size)
    have d1_8 := d1_7.trans (b8.mono d1_7.size)
    have d2_8 := d2_7.trans (b8.mono d2_7.size)
    have d3_8 := d3_7.trans (b8.mono d3_7.size)
    have d4_8 := d4_7.trans (b8.mono d4_7.size)
    have d5_8 := d5_7.trans (b8.mono d5_7.size)
    have d6_8 := d6_7.trans (b8.mono d6_7.size)
    have d7_8 := b8
    go_wp2_with fail
    go_ret
    exact ⟨rfl, d0_8⟩
  · have hgp : 0 < g := Nat.pos_of_ne_zero (fun e => by have h1 := HGA.out e; have h2 := HGB.out e; omega)
    go_enter Tryd.func3, Tryd.ntmps3
    go_wp2_with fail
    refine (HRD.out _ (Below.refl _ w)).mono ?_
    rintro e w1 ⟨vx, vy, rfl, hx, hy, b1⟩
    have d0_1 := b1
    go_wp2_with fail
    refine (rmul_v (hx.lv hxa) (lb.below d0_1) (by decide)).mono ?_
    rintro e w2 ⟨vxb, rfl, hxb, b2⟩
    have d0_2 := d0_1.trans (b2.mono d0_1.size)
    have d1_2 := b2
    go_wp2_with fail
    refine (rmul_v ((hy.below d1_2).lv hyb) (la.below d0_2) (by decide)).mono ?_
    rintro e w3 ⟨vya, rfl, hya, b3⟩
    have d0_3 := d0_2.trans (b3.mono d0_2.size)
    have d1_3 := d1_2.trans (b3.mono d1_2.size)
    have d2_3 := b3
    go_wp2_with fail
    refine (r4same_t (hxb.below d2_3) hya (by first | exact HSW.out | (rw [HM.out]; exact HSW.out))).mono ?_
    rintro e w4 ⟨rfl, b4⟩
    have d0_4 := d0_3.trans (b4.mono d0_3.size)
    have d1_4 := d1_3.trans (b4.mono d1_3.size)
    have d2_4 := d2_3.trans (b4.mono d2_3.size)
    have d3_4 := b4
    go_wp2_with fail
    refine (rtrim_v (la.below d0_4) (by decide)).mono ?_
    rintro e w5 ⟨vta, rfl, hta, b5⟩
    have d0_5 := d0_4.trans (b5.mono d0_4.size)
    have d1_5 := d1_4.trans (b5.mono d1_4.size)
    have d2_5 := d2_4.trans (b5.mono d2_4.size)
    have d3_5 := d3_4.trans (b5.mono d3_4.size)
    have d4_5 := b5
    obtain ⟨Ata, nta, cta, rfl, zta, pta, ita, jta, hta⟩ := hta.open
    have qta := pta (by omega); clear zta pta
    go_wp2_with fail
    refine (HGG.out _ d0_5).mono ?_
    rintro e w6 ⟨vg, rfl, hg, b6⟩
    have d0_6 := d0_5.trans (b6.mono d0_5.size)
    have d1_6 := d1_5.trans (b6.mono d1_5.size)
    have d2_6 := d2_5.trans (b6.mono d2_5.size)
    have d3_6 := d3_5.trans (b6.mono d3_5.size)
    have d4_6 := d4_5.trans (b6.mono d4_5.size)
    have d5_6 := b6
    go_wp2_with fail
    refine (HLL.out _ d0_6).mono ?_
    rintro e w7 ⟨vm, rfl, hm, b7⟩
    have d0_7 := d0_6.trans (b7.mono d0_6.size)
    have d1_7 := d1_6.trans (b7.mono d1_6.size)
    have d2_7 := d2_6.trans (b7.mono d2_6.size)
    have d3_7 := d3_6.trans (b7.mono d3_6.size)
    have d4_7 := d4_6.trans (b7.mono d4_6.size)
    have d5_7 := d5_6.trans (b7.mono d5_6.size)
    have d6_7 := b7
    go_wp2_with fail
    have hcq := coprime_v ((hx.below d1_7).lv hxa) ((hy.below d1_7).lv hyb) (by decide) (hT.below d0_7)
    rw [HCP.out hgp, show ((1 : Nat) == 1) = true from rfl] at hcq
    refine (hcq).mono ?_
    rintro e w8 ⟨rfl, b8⟩
    have d0_8 := d0_7.trans (b8.mono d0_7.size)
    have d1_8 := d1_7.trans (b8.mono d1_7.size)
    have d2_8 := d2_7.trans (b8.mono d2_7.size)
    have d3_8 := d3_7.trans (b8.mono d3_7.size)
    have d4_8 := d4_7.trans (b8.mono d4_7.size)
    have d5_8 := d5_7.trans (b8.mono d5_7.size)
    have d6_8 := d6_7.trans (b8.mono d6_7.size)
    have d7_8 := b8
    go_wp2_with fail
    refine (rmul_v ((hx.below d1_8).lv hxa) ((hg.below d6_8).lv hgl) (by decide)).mono ?_
    rintro e w9 ⟨vp1, rfl, hp1, b9⟩
    have d0_9 := d0_8.trans (b9.mono d0_8.size)
    have d1_9 := d1_8.trans (b9.mono d1_8.size)
    have d2_9 := d2_8.trans (b9.mono d2_8.size)
    have d3_9 := d3_8.trans (b9.mono d3_8.size)
    have d4_9 := d4_8.trans (b9.mono d4_8.size)
    have d5_9 := d5_8.trans (b9.mono d5_8.size)
    have d6_9 := d6_8.trans (b9.mono d6_8.size)
    have d7_9 := d7_8.trans (b9.mono d7_8.size)
    have d8_9 := b9
    go_wp2_with fail
    refine (rtrim_v (la.below d0_9) (by decide)).mono ?_
    rintro e w10 ⟨vp2, rfl, hp2, b10⟩
    have d0_10 := d0_9.trans (b10.mono d0_9.size)
    have d1_10 := d1_9.trans (b10.mono d1_9.size)
    have d2_10 := d2_9.trans (b10.mono d2_9.size)
    have d3_10 := d3_9.trans (b10.mono d3_9.size)
    have d4_10 := d4_9.trans (b10.mono d4_9.size)
    have d5_10 := d5_9.trans (b10.mono d5_9.size)
    have d6_10 := d6_9.trans (b10.mono d6_9.size)
    have d7_10 := d7_9.trans (b10.mono d7_9.size)
    have d8_10 := d8_9.trans (b10.mono d8_9.size)
    have d9_10 := b10
    go_wp2_with fail
    refine (r4same_t (hp1.below d9_10) hp2 HDA.out).mono ?_
    rintro e w11 ⟨rfl, b11⟩
    have d0_11 := d0_10.trans (b11.mono d0_10.size)
    have d1_11 := d1_10.trans (b11.mono d1_10.size)
    have d2_11 := d2_10.trans (b11.mono d2_10.size)
    have d3_11 := d3_10.trans (b11.mono d3_10.size)
    have d4_11 := d4_10.trans (b11.mono d4_10.size)
    have d5_11 := d5_10.trans (b11.mono d5_10.size)
    have d6_11 := d6_10.trans (b11.mono d6_10.size)
    have d7_11 := d7_10.trans (b11.mono d7_10.size)
    have d8_11 := d8_10.trans (b11.mono d8_10.size)
    have d9_11 := d9_10.trans (b11.mono d9_10.size)
    have d10_11 := b11
    go_wp2_with fail
    refine (rmul_v ((hy.below d1_11).lv hyb) ((hg.below d6_11).lv hgl) (by decide)).mono ?_
    rintro e w12 ⟨vp3, rfl, hp3, b12⟩
    have d0_12 := d0_11.trans (b12.mono d0_11.size)
    have d1_12 := d1_11.trans (b12.mono d1_11.size)
    have d2_12 := d2_11.trans (b12.mono d2_11.size)
    have d3_12 := d3_11.trans (b12.mono d3_11.size)
    have d4_12 := d4_11.trans (b12.mono d4_11.size)
    have d5_12 := d5_11.trans (b12.mono d5_11.size)
    have d6_12 := d6_11.trans (b12.mono d6_11.size)
    have d7_12 := d7_11.trans (b12.mono d7_11.size)
    have d8_12 := d8_11.trans (b12.mono d8_11.size)
    have d9_12 := d9_11.trans (b12.mono d9_11.size)
    have d10_12 := d10_11.trans (b12.mono d10_11.size)
    have d11_12 := b12
    go_wp2_with fail
    refine (rtrim_v (lb.below d0_12) (by decide)).mono ?_
    rintro e w13 ⟨vp4, rfl, hp4, b13⟩
    have d0_13 := d0_12.trans (b13.mono d0_12.size)
    have d1_13 := d1_12.trans (b13.mono d1_12.size)
    have d2_13 := d2_12.trans (b13.mono d2_12.size)
    have d3_13 := d3_12.trans (b13.mono d3_12.size)
    have d4_13 := d4_12.trans (b13.mono d4_12.size)
    have d5_13 := d5_12.trans (b13.mono d5_12.size)
    have d6_13 := d6_12.trans (b13.mono d6_12.size)
    have d7_13 := d7_12.trans (b13.mono d7_12.size)
    have d8_13 := d8_12.trans (b13.mono d8_12.size)
    have d9_13 := d9_12.trans (b13.mono d9_12.size)
    have d10_13 := d10_12.trans (b13.mono d10_12.size)
    have d11_13 := d11_12.trans (b13.mono d11_12.size)
    have d12_13 := b13
    go_wp2_with fail
    refine (r4same_t (hp3.below d12_13) hp4 HDB.out).mono ?_
    rintro e w14 ⟨rfl, b14⟩
    have d0_14 := d0_13.trans (b14.mono d0_13.size)
    have d1_14 := d1_13.trans (b14.mono d1_13.size)
    have d2_14 := d2_13.trans (b14.mono d2_13.size)
    have d3_14 := d3_13.trans (b14.mono d3_13.size)
    have d4_14 := d4_13.trans (b14.mono d4_13.size)
    have d5_14 := d5_13.trans (b14.mono d5_13.size)
    have d6_14 := d6_13.trans (b14.mono d6_13.size)
    have d7_14 := d7_13.trans (b14.mono d7_13.size)
    have d8_14 := d8_13.trans (b14.mono d8_13.size)
    have d9_14 := d9_13.trans (b14.mono d9_13.size)
    have d10_14 := d10_13.trans (b14.mono d10_13.size)
    have d11_14 := d11_13.trans (b14.mono d11_13.size)
    have d12_14 := d12_13.trans (b14.mono d12_13.size)
    have d13_14 := b14
    go_wp2_with fail
    refine (rmul_v ((hm.below d7_14).lv hml) (((hg.below d6_14).lv hgl).mono (by decide)) (by decide)).mono ?_
    rintro e w15 ⟨vp5, rfl, hp5, b15⟩
    have d0_15 := d0_14.trans (b15.mono d0_14.size)
    have d1_15 := d1_14.trans (b15.mono d1_14.size)
    have d2_15 := d2_14.trans (b15.mono d2_14.size)
    have d3_15 := d3_14.trans (b15.mono d3_14.size)
    have d4_15 := d4_14.trans (b15.mono d4_14.size)
    have d5_15 := d5_14.trans (b15.mono d5_14.size)
    have d6_15 := d6_14.trans (b15.mono d6_14.size)
    have d7_15 := d7_14.trans (b15.mono d7_14.size)
    have d8_15 := d8_14.trans (b15.mono d8_14.size)
    have d9_15 := d9_14.trans (b15.mono d9_14.size)
    have d10_15 := d10_14.trans (b15.mono d10_14.size)
    have d11_15 := d11_14.trans (b15.mono d11_14.size)
    have d12_15 := d12_14.trans (b15.mono d12_14.size)
    have d13_15 := d13_14.trans (b15.mono d13_14.size)
    have d14_15 := b15
    go_wp2_with fail
    refine (rmul_v (la.below d0_15) (lb.below d0_15) (by decide)).mono ?_
    rintro e w16 ⟨vp6, rfl, hp6, b16⟩
    have d0_16 := d0_15.trans (b16.mono d0_15.size)
    have d1_16 := d1_15.trans (b16.mono d1_15.size)
    have d2_16 := d2_15.trans (b16.mono d2_15.size)
    have d3_16 := d3_15.trans (b16.mono d3_15.size)
    have d4_16 := d4_15.trans (b16.mono d4_15.size)
    have d5_16 := d5_15.trans (b16.mono d5_15.size)
    have d6_16 := d6_15.trans (b16.mono d6_15.size)
    have d7_16 := d7_15.trans (b16.mono d7_15.size)
    have d8_16 := d8_15.trans (b16.mono d8_15.size)
    have d9_16 := d9_15.trans (b16.mono d9_15.size)
    have d10_16 := d10_15.trans (b16.mono d10_15.size)
    have d11_16 := d11_15.trans (b16.mono d11_15.size)
    have d12_16 := d12_15.trans (b16.mono d12_15.size)
    have d13_16 := d13_15.trans (b16.mono d13_15.size)
    have d14_16 := d14_15.trans (b16.mono d14_15.size)
    have d15_16 := b16
    go_wp2_with fail
    refine (r4same_t (hp5.below d15_16) hp6 HLC.out).mono ?_
    rintro e w17 ⟨rfl, b17⟩
    have d0_17 := d0_16.trans (b17.mono d0_16.size)
    have d1_17 := d1_16.trans (b17.mono d1_16.size)
    have d2_17 := d2_16.trans (b17.mono d2_16.size)
    have d3_17 := d3_16.trans (b17.mono d3_16.size)
    have d4_17 := d4_16.trans (b17.mono d4_16.size)
    have d5_17 := d5_16.trans (b17.mono d5_16.size)
    have d6_17 := d6_16.trans (b17.mono d6_16.size)
    have d7_17 := d7_16.trans (b17.mono d7_16.size)
    have d8_17 := d8_16.trans (b17.mono d8_16.size)
    have d9_17 := d9_16.trans (b17.mono d9_16.size)
    have d10_17 := d10_16.trans (b17.mono d10_16.size)
    have d11_17 := d11_16.trans (b17.mono d11_16.size)
    have d12_17 := d12_16.trans (b17.mono d12_16.size)
    have d13_17 := d13_16.trans (b17.mono d13_16.size)
    have d14_17 := d14_16.trans (b17.mono d14_16.size)
    have d15_17 := d15_16.trans (b17.mono d15_16.size)
    have d16_17 := b17
    go_wp2_with fail
    refine (wakes4_any _ (hT.below d0_17)).mono ?_
    rintro e w18 ⟨rfl, b18⟩
    have d0_18 := d0_17.trans (b18.mono d0_17.size)
    have d1_18 := d1_17.trans (b18.mono d1_17.size)
    have d2_18 := d2_17.trans (b18.mono d2_17.size)
    have d3_18 := d3_17.trans (b18.mono d3_17.size)
    have d4_18 := d4_17.trans (b18.mono d4_17.size)
    have d5_18 := d5_17.trans (b18.mono d5_17.size)
    have d6_18 := d6_17.trans (b18.mono d6_17.size)
    have d7_18 := d7_17.trans (b18.mono d7_17.size)
    have d8_18 := d8_17.trans (b18.mono d8_17.size)
    have d9_18 := d9_17.trans (b18.mono d9_17.size)
    have d10_18 := d10_17.trans (b18.mono d10_17.size)
    have d11_18 := d11_17.trans (b18.mono d11_17.size)
    have d12_18 := d12_17.trans (b18.mono d12_17.size)
    have d13_18 := d13_17.trans (b18.mono d13_17.size)
    have d14_18 := d14_17.trans (b18.mono d14_17.size)
    have d15_18 := d15_17.trans (b18.mono d15_17.size)
    have d16_18 := d16_17.trans (b18.mono d16_17.size)
    have d17_18 := b18
    go_wp2_with fail
    go_ret
    exact ⟨rfl, d0_18⟩
  · have hgp : 0 < g := Nat.pos_of_ne_zero (fun e => by have h1 := HGA.out e; have h2 := HGB.out e; omega)
    have HA := hid ha0; clear ha0
    go_enter Tryd.func3, Tryd.ntmps3
    go_wp2_with fail
    refine (HRD.out _ (Below.refl _ w)).mono ?_
    rintro e w1 ⟨vx, vy, rfl, hx, hy, b1⟩
    have d0_1 := b1
    go_wp2_with fail
    refine (rmul_v (hx.lv hxa) (lb.below d0_1) (by decide)).mono ?_
    rintro e w2 ⟨vxb, rfl, hxb, b2⟩
    have d0_2 := d0_1.trans (b2.mono d0_1.size)
    have d1_2 := b2
    go_wp2_with fail
    refine (rmul_v ((hy.below d1_2).lv hyb) (la.below d0_2) (by decide)).mono ?_
    rintro e w3 ⟨vya, rfl, hya, b3⟩
    have d0_3 := d0_2.trans (b3.mono d0_2.size)
    have d1_3 := d1_2.trans (b3.mono d1_2.size)
    have d2_3 := b3
    go_wp2_with fail
    refine (r4same_t (hxb.below d2_3) hya (by first | exact HSW.out | (rw [HM.out]; exact HSW.out))).mono ?_
    rintro e w4 ⟨rfl, b4⟩
    have d0_4 := d0_3.trans (b4.mono d0_3.size)
    have d1_4 := d1_3.trans (b4.mono d1_3.size)
    have d2_4 := d2_3.trans (b4.mono d2_3.size)
    have d3_4 := b4
    go_wp2_with fail
    refine (rtrim_v (la.below d0_4) (by decide)).mono ?_
    rintro e w5 ⟨vta, rfl, hta, b5⟩
    have d0_5 := d0_4.trans (b5.mono d0_4.size)
    have d1_5 := d1_4.trans (b5.mono d1_4.size)
    have d2_5 := d2_4.trans (b5.mono d2_4.size)
    have d3_5 := d3_4.trans (b5.mono d3_4.size)
    have d4_5 := b5
    obtain ⟨Ata, nta, cta, rfl, zta, pta, ita, jta, hta⟩ := hta.open
    have qta := zta HA.out; subst qta; clear zta pta
    go_wp2_with fail
    refine (rtrim_v (lb.below d0_5) (by decide)).mono ?_
    rintro e w6 ⟨vtb, rfl, htb, b6⟩
    have d0_6 := d0_5.trans (b6.mono d0_5.size)
    have d1_6 := d1_5.trans (b6.mono d1_5.size)
    have d2_6 := d2_5.trans (b6.mono d2_5.size)
    have d3_6 := d3_5.trans (b6.mono d3_5.size)
    have d4_6 := d4_5.trans (b6.mono d4_5.size)
    have d5_6 := b6
    obtain ⟨Atb, ntb, ctb, rfl, ztb, ptb, itb, jtb, htb⟩ := htb.open
    have qtb := ptb (by omega); clear ztb ptb
    go_wp2_with fail
    refine (HGG.out _ d0_6).mono ?_
    rintro e w7 ⟨vg, rfl, hg, b7⟩
    have d0_7 := d0_6.trans (b7.mono d0_6.size)
    have d1_7 := d1_6.trans (b7.mono d1_6.size)
    have d2_7 := d2_6.trans (b7.mono d2_6.size)
    have d3_7 := d3_6.trans (b7.mono d3_6.size)
    have d4_7 := d4_6.trans (b7.mono d4_6.size)
    have d5_7 := d5_6.trans (b7.mono d5_6.size)
    have d6_7 := b7
    go_wp2_with fail
    refine (HLL.out _ d0_7).mono ?_
    rintro e w8 ⟨vm, rfl, hm, b8⟩
    have d0_8 := d0_7.trans (b8.mono d0_7.size)
    have d1_8 := d1_7.trans (b8.mono d1_7.size)
    have d2_8 := d2_7.trans (b8.mono d2_7.size)
    have d3_8 := d3_7.trans (b8.mono d3_7.size)
    have d4_8 := d4_7.trans (b8.mono d4_7.size)
    have d5_8 := d5_7.trans (b8.mono d5_7.size)
    have d6_8 := d6_7.trans (b8.mono d6_7.size)
    have d7_8 := b8
    go_wp2_with fail
    have hcq := coprime_v ((hx.below d1_8).lv hxa) ((hy.below d1_8).lv hyb) (by decide) (hT.below d0_8)
    rw [HCP.out hgp, show ((1 : Nat) == 1) = true from rfl] at hcq
    refine (hcq).mono ?_
    rintro e w9 ⟨rfl, b9⟩
    have d0_9 := d0_8.trans (b9.mono d0_8.size)
    have d1_9 := d1_8.trans (b9.mono d1_8.size)
    have d2_9 := d2_8.trans (b9.mono d2_8.size)
    have d3_9 := d3_8.trans (b9.mono d3_8.size)
    have d4_9 := d4_8.trans (b9.mono d4_8.size)
    have d5_9 := d5_8.trans (b9.mono d5_8.size)
    have d6_9 := d6_8.trans (b9.mono d6_8.size)
    have d7_9 := d7_8.trans (b9.mono d7_8.size)
    have d8_9 := b9
    go_wp2_with fail
    refine (rmul_v ((hx.below d1_9).lv hxa) ((hg.below d7_9).lv hgl) (by decide)).mono ?_
    rintro e w10 ⟨vp1, rfl, hp1, b10⟩
    have d0_10 := d0_9.trans (b10.mono d0_9.size)
    have d1_10 := d1_9.trans (b10.mono d1_9.size)
    have d2_10 := d2_9.trans (b10.mono d2_9.size)
    have d3_10 := d3_9.trans (b10.mono d3_9.size)
    have d4_10 := d4_9.trans (b10.mono d4_9.size)
    have d5_10 := d5_9.trans (b10.mono d5_9.size)
    have d6_10 := d6_9.trans (b10.mono d6_9.size)
    have d7_10 := d7_9.trans (b10.mono d7_9.size)
    have d8_10 := d8_9.trans (b10.mono d8_9.size)
    have d9_10 := b10
    go_wp2_with fail
    refine (rtrim_v (la.below d0_10) (by decide)).mono ?_
    rintro e w11 ⟨vp2, rfl, hp2, b11⟩
    have d0_11 := d0_10.trans (b11.mono d0_10.size)
    have d1_11 := d1_10.trans (b11.mono d1_10.size)
    have d2_11 := d2_10.trans (b11.mono d2_10.size)
    have d3_11 := d3_10.trans (b11.mono d3_10.size)
    have d4_11 := d4_10.trans (b11.mono d4_10.size)
    have d5_11 := d5_10.trans (b11.mono d5_10.size)
    have d6_11 := d6_10.trans (b11.mono d6_10.size)
    have d7_11 := d7_10.trans (b11.mono d7_10.size)
    have d8_11 := d8_10.trans (b11.mono d8_10.size)
    have d9_11 := d9_10.trans (b11.mono d9_10.size)
    have d10_11 := b11
    go_wp2_with fail
    refine (r4same_t (hp1.below d10_11) hp2 HDA.out).mono ?_
    rintro e w12 ⟨rfl, b12⟩
    have d0_12 := d0_11.trans (b12.mono d0_11.size)
    have d1_12 := d1_11.trans (b12.mono d1_11.size)
    have d2_12 := d2_11.trans (b12.mono d2_11.size)
    have d3_12 := d3_11.trans (b12.mono d3_11.size)
    have d4_12 := d4_11.trans (b12.mono d4_11.size)
    have d5_12 := d5_11.trans (b12.mono d5_11.size)
    have d6_12 := d6_11.trans (b12.mono d6_11.size)
    have d7_12 := d7_11.trans (b12.mono d7_11.size)
    have d8_12 := d8_11.trans (b12.mono d8_11.size)
    have d9_12 := d9_11.trans (b12.mono d9_11.size)
    have d10_12 := d10_11.trans (b12.mono d10_11.size)
    have d11_12 := b12
    go_wp2_with fail
    refine (rmul_v ((hy.below d1_12).lv hyb) ((hg.below d7_12).lv hgl) (by decide)).mono ?_
    rintro e w13 ⟨vp3, rfl, hp3, b13⟩
    have d0_13 := d0_12.trans (b13.mono d0_12.size)
    have d1_13 := d1_12.trans (b13.mono d1_12.size)
    have d2_13 := d2_12.trans (b13.mono d2_12.size)
    have d3_13 := d3_12.trans (b13.mono d3_12.size)
    have d4_13 := d4_12.trans (b13.mono d4_12.size)
    have d5_13 := d5_12.trans (b13.mono d5_12.size)
    have d6_13 := d6_12.trans (b13.mono d6_12.size)
    have d7_13 := d7_12.trans (b13.mono d7_12.size)
    have d8_13 := d8_12.trans (b13.mono d8_12.size)
    have d9_13 := d9_12.trans (b13.mono d9_12.size)
    have d10_13 := d10_12.trans (b13.mono d10_12.size)
    have d11_13 := d11_12.trans (b13.mono d11_12.size)
    have d12_13 := b13
    go_wp2_with fail
    refine (rtrim_v (lb.below d0_13) (by decide)).mono ?_
    rintro e w14 ⟨vp4, rfl, hp4, b14⟩
    have d0_14 := d0_13.trans (b14.mono d0_13.size)
    have d1_14 := d1_13.trans (b14.mono d1_13.size)
    have d2_14 := d2_13.trans (b14.mono d2_13.size)
    have d3_14 := d3_13.trans (b14.mono d3_13.size)
    have d4_14 := d4_13.trans (b14.mono d4_13.size)
    have d5_14 := d5_13.trans (b14.mono d5_13.size)
    have d6_14 := d6_13.trans (b14.mono d6_13.size)
    have d7_14 := d7_13.trans (b14.mono d7_13.size)
    have d8_14 := d8_13.trans (b14.mono d8_13.size)
    have d9_14 := d9_13.trans (b14.mono d9_13.size)
    have d10_14 := d10_13.trans (b14.mono d10_13.size)
    have d11_14 := d11_13.trans (b14.mono d11_13.size)
    have d12_14 := d12_13.trans (b14.mono d12_13.size)
    have d13_14 := b14
    go_wp2_with fail
    refine (r4same_t (hp3.below d13_14) hp4 HDB.out).mono ?_
    rintro e w15 ⟨rfl, b15⟩
    have d0_15 := d0_14.trans (b15.mono d0_14.size)
    have d1_15 := d1_14.trans (b15.mono d1_14.size)
    have d2_15 := d2_14.trans (b15.mono d2_14.size)
    have d3_15 := d3_14.trans (b15.mono d3_14.size)
    have d4_15 := d4_14.trans (b15.mono d4_14.size)
    have d5_15 := d5_14.trans (b15.mono d5_14.size)
    have d6_15 := d6_14.trans (b15.mono d6_14.size)
    have d7_15 := d7_14.trans (b15.mono d7_14.size)
    have d8_15 := d8_14.trans (b15.mono d8_14.size)
    have d9_15 := d9_14.trans (b15.mono d9_14.size)
    have d10_15 := d10_14.trans (b15.mono d10_14.size)
    have d11_15 := d11_14.trans (b15.mono d11_14.size)
    have d12_15 := d12_14.trans (b15.mono d12_14.size)
    have d13_15 := d13_14.trans (b15.mono d13_14.size)
    have d14_15 := b15
    go_wp2_with fail
    refine (rmul_v ((hm.below d8_15).lv hml) (((hg.below d7_15).lv hgl).mono (by decide)) (by decide)).mono ?_
    rintro e w16 ⟨vp5, rfl, hp5, b16⟩
    have d0_16 := d0_15.trans (b16.mono d0_15.size)
    have d1_16 := d1_15.trans (b16.mono d1_15.size)
    have d2_16 := d2_15.trans (b16.mono d2_15.size)
    have d3_16 := d3_15.trans (b16.mono d3_15.size)
    have d4_16 := d4_15.trans (b16.mono d4_15.size)
    have d5_16 := d5_15.trans (b16.mono d5_15.size)
    have d6_16 := d6_15.trans (b16.mono d6_15.size)
    have d7_16 := d7_15.trans (b16.mono d7_15.size)
    have d8_16 := d8_15.trans (b16.mono d8_15.size)
    have d9_16 := d9_15.trans (b16.mono d9_15.size)
    have d10_16 := d10_15.trans (b16.mono d10_15.size)
    have d11_16 := d11_15.trans (b16.mono d11_15.size)
    have d12_16 := d12_15.trans (b16.mono d12_15.size)
    have d13_16 := d13_15.trans (b16.mono d13_15.size)
    have d14_16 := d14_15.trans (b16.mono d14_15.size)
    have d15_16 := b16
    go_wp2_with fail
    refine (rmul_v (la.below d0_16) (lb.below d0_16) (by decide)).mono ?_
    rintro e w17 ⟨vp6, rfl, hp6, b17⟩
    have d0_17 := d0_16.trans (b17.mono d0_16.size)
    have d1_17 := d1_16.trans (b17.mono d1_16.size)
    have d2_17 := d2_16.trans (b17.mono d2_16.size)
    have d3_17 := d3_16.trans (b17.mono d3_16.size)
    have d4_17 := d4_16.trans (b17.mono d4_16.size)
    have d5_17 := d5_16.trans (b17.mono d5_16.size)
    have d6_17 := d6_16.trans (b17.mono d6_16.size)
    have d7_17 := d7_16.trans (b17.mono d7_16.size)
    have d8_17 := d8_16.trans (b17.mono d8_16.size)
    have d9_17 := d9_16.trans (b17.mono d9_16.size)
    have d10_17 := d10_16.trans (b17.mono d10_16.size)
    have d11_17 := d11_16.trans (b17.mono d11_16.size)
    have d12_17 := d12_16.trans (b17.mono d12_16.size)
    have d13_17 := d13_16.trans (b17.mono d13_16.size)
    have d14_17 := d14_16.trans (b17.mono d14_16.size)
    have d15_17 := d15_16.trans (b17.mono d15_16.size)
    have d16_17 := b17
    go_wp2_with fail
    refine (r4same_t (hp5.below d16_17) hp6 HLC.out).mono ?_
    rintro e w18 ⟨rfl, b18⟩
    have d0_18 := d0_17.trans (b18.mono d0_17.size)
    have d1_18 := d1_17.trans (b18.mono d1_17.size)
    have d2_18 := d2_17.trans (b18.mono d2_17.size)
    have d3_18 := d3_17.trans (b18.mono d3_17.size)
    have d4_18 := d4_17.trans (b18.mono d4_17.size)
    have d5_18 := d5_17.trans (b18.mono d5_17.size)
    have d6_18 := d6_17.trans (b18.mono d6_17.size)
    have d7_18 := d7_17.trans (b18.mono d7_17.size)
    have d8_18 := d8_17.trans (b18.mono d8_17.size)
    have d9_18 := d9_17.trans (b18.mono d9_17.size)
    have d10_18 := d10_17.trans (b18.mono d10_17.size)
    have d11_18 := d11_17.trans (b18.mono d11_17.size)
    have d12_18 := d12_17.trans (b18.mono d12_17.size)
    have d13_18 := d13_17.trans (b18.mono d13_17.size)
    have d14_18 := d14_17.trans (b18.mono d14_17.size)
    have d15_18 := d15_17.trans (b18.mono d15_17.size)
    have d16_18 := d16_17.trans (b18.mono d16_17.size)
    have d17_18 := b18
    go_wp2_with fail
    refine (wakes4_any _ (hT.below d0_18)).mono ?_
    rintro e w19 ⟨rfl, b19⟩
    have d0_19 := d0_18.trans (b19.mono d0_18.size)
    have d1_19 := d1_18.trans (b19.mono d1_18.size)
    have d2_19 := d2_18.trans (b19.mono d2_18.size)
    have d3_19 := d3_18.trans (b19.mono d3_18.size)
    have d4_19 := d4_18.trans (b19.mono d4_18.size)
    have d5_19 := d5_18.trans (b19.mono d5_18.size)
    have d6_19 := d6_18.trans (b19.mono d6_18.size)
    have d7_19 := d7_18.trans (b19.mono d7_18.size)
    have d8_19 := d8_18.trans (b19.mono d8_18.size)
    have d9_19 := d9_18.trans (b19.mono d9_18.size)
    have d10_19 := d10_18.trans (b19.mono d10_18.size)
    have d11_19 := d11_18.trans (b19.mono d11_18.size)
    have d12_19 := d12_18.trans (b19.mono d12_18.size)
    have d13_19 := d13_18.trans (b19.mono d13_18.size)
    have d14_19 := d14_18.trans (b19.mono d14_18.size)
    have d15_19 := d15_18.trans (b19.mono d15_18.size)
    have d16_19 := d16_18.trans (b19.mono d16_18.size)
    have d17_19 := d17_18.trans (b19.mono d17_18.size)
    have d18_19 := b19
    go_wp2_with fail
    go_ret
    exact ⟨rfl, d0_19⟩
end Go.Proofs.Wd
