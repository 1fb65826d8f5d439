/- Natural numbers as values; the walks of gcd's Reduce, Lcm, Coprime; The walks of straitref04's Same and of straitlaw04's wakes; The reference's Div, Add, Cmp on numbers as values; the walk of gcd's All; The walk of straitlaw04.GcdReduces. -/
import Derived.Test.YtghgemeclgpibaaDoorMQN17
import Derived.Test.YtghgemeclgpibaaDoorMQN10
import Derived.Test.YtghgemeclgpibaaDoorMQN7
import Derived.Test.YtghgemeclgpibaaDoorMQN18
import Derived.Test.YtghgemeclgpibaaDoorMQN16
import Derived.Test.YtghgemeclgpibaaDoorMQN9
namespace Go.Proofs.Wd
open Go.RowKit Lb

theorem gcd_v {W : World} {m : Nat} {v v' : Value} {a b : Nat} (h : LV W m v a) (h' : LV W m v' b) (hm : m ≤ 1000) (hT : Tab W) : Calls Tryd.prog 17 #[v, v'] W (RetN W (Nat.gcd a b)) := by
  obtain ⟨A, n, c, l, rfl, h1, h2, h3, rfl⟩ := h
  obtain ⟨A', n', c', l', rfl, h1', h2', h3', rfl⟩ := h'
  exact (gcd_any A n c l A' n' c' l' W h1 h1' h2 h2' (by omega) (by omega) hT).mono fun _ _ => RetNat.v
theorem gcd_lt {a b m : Nat} (ha : a < BB ^ m) (hb : b < BB ^ m) : Nat.gcd a b < BB ^ m := by
  rcases Nat.eq_zero_or_pos a with rfl | h
  · rwa [Nat.gcd_zero_left]
  · exact Nat.lt_of_le_of_lt (Nat.gcd_le_left b h) ha

/-- The closure that divides by a number in its box. -/
theorem by1_any {m : Nat} {v vg : Value} {a g B : Nat} {W : World} (h : LV W m v a) (hg : LV W m vg g) (hm : m ≤ 1000) (hg0 : 0 < g) (hc : W.cell? ⟨B, 0, none⟩ = some vg) :
    Calls Tryd.prog 78 #[v, .pointer (some ⟨B, 0, none⟩)] W (RetN W (a / g)) := by
  obtain ⟨A, n, c, l, rfl, h1, h2, h3, h4⟩ := h
  obtain ⟨A', n', c', l', rfl, h1', h2', h3', h4'⟩ := hg
  have hd := qdiv_all a g hg0 A n c l A' n' c' l' W h1 h2 h1' h2' h4 h4' (by omega) (by omega)
  have H4 := hid h4; have H4' := hid h4'
  clear h4 h4'
  go_enter Tryd.func78, Tryd.ntmps78
  go_wp2_with fail
  refine hd.mono ?_
  rintro e w4 ⟨A4, n4, c4, l4, A5, n5, c5, l5, rfl, hi4, hr4, hi5, hr5, hb5⟩
  go_wp2_with fail
  go_ret
  exact ⟨_, rfl, ⟨A4, n4, c4, l4, rfl, hi4, hr4⟩, hb5⟩

theorem by_any (A : Option Addr) (n c : Nat) (w : World) :
    Calls Tryd.prog 48 #[.slice A n c] w fun e w' => e = .returned (.func (.func 78) #[] #[.pointer (some ⟨w.heap.size, 0, none⟩)]) ∧ w' = w.alloc (.cells #[.slice A n c] 23) := by
  go_enter Tryd.func48, Tryd.ntmps48
  go_wp2
  go_ret
  exact ⟨rfl, rfl⟩

set_option maxHeartbeats 1000000 in
theorem reduce_v {W : World} {m : Nat} {v v' : Value} {a b : Nat} (h : LV W m v a) (h' : LV W m v' b) (hm : m ≤ 1000) (hT : Tab W) : Calls Tryd.prog 12 #[v, v'] W (RetN2 W (a / Nat.gcd a b) (b / Nat.gcd a b)) := by
  have hgc := gcd_v h h' hm hT
  have hgl := gcd_lt h.bound h'.bound
  have hen : ∀ args w, (callFunc 78 args).run Tryd.prog w = .ok (.enter 78 args) w := enters_of Tryd.func78 (by kernel_rfl) rfl
  obtain ⟨g, hg⟩ : ∃ g, Nat.gcd a b = g := ⟨_, rfl⟩
  rw [hg] at hgc hgl ⊢
  rcases Nat.eq_zero_or_pos g with h0 | h0
  · have HZ := hid h0
    go_enter Tryd.func12, Tryd.ntmps12
    go_wp2_with fail
    refine hgc.mono ?_
    rintro e w4 ⟨v4, rfl, ⟨A4, n4, c4, l4, rfl, hi4, hr4⟩, hb4⟩
    obtain rfl : n4 = 0 := by rw [← hr4.len]; exact hi4.zero_iff.1 HZ.out
    go_wp2_with fail
    go_ret2
    exact ⟨_, _, rfl, ⟨none, 0, 0, [], rfl, by rw [HZ.out, Nat.div_zero]; exact Is.nil, Rd.nil_ _⟩, ⟨none, 0, 0, [], rfl, by rw [HZ.out, Nat.div_zero]; exact Is.nil, Rd.nil_ _⟩, hb4⟩
  · clear hg
    go_enter Tryd.func12, Tryd.ntmps12
    go_wp2_with fail
    refine hgc.mono ?_
    rintro e w4 ⟨v4, rfl, ⟨A4, n4, c4, l4, rfl, hi4, hr4⟩, hb4⟩
    have hn4 : 0 < n4 := by rw [← hr4.len]; exact hi4.pos_iff.1 h0
    have hb5 := hb4.trans ((Below.refl _ w4).alloc (Nat.le_refl _) (.cells #[.slice A4 n4 c4] 23) |>.mono hb4.size)
    have x5 := Boxed.new w4 23 (.slice A4 n4 c4)
    obtain ⟨W5, hW5⟩ : ∃ W5, w4.alloc (.cells #[.slice A4 n4 c4] 23) = W5 := ⟨_, rfl⟩
    rw [hW5] at hb5 x5
    have hg5 : LV W5 m (.slice A4 n4 c4) g := by rw [← hW5]; exact (NatV.lv ⟨A4, n4, c4, l4, rfl, hi4, hr4⟩ hgl).below ((Below.refl _ w4).alloc (Nat.le_refl _) _)
    have hby := by_any A4 n4 c4 w4
    rw [hW5] at hby
    clear hW5
    go_wp2_with fail
    refine hby.mono ?_
    rintro e w6 ⟨rfl, rfl⟩
    go_wp2_with fail
    refine (by1_any (h.below hb5) hg5 hm h0 x5.cell).mono ?_
    rintro e w7 ⟨v7, rfl, hv7, hb7⟩
    go_wp2_with fail
    refine (by1_any ((h'.below hb5).below hb7) (hg5.below hb7) hm h0 ((hb7.cell (p := ⟨w4.heap.size, 0, none⟩) (lt_of_cell x5.cell)).trans x5.cell)).mono ?_
    rintro e w8 ⟨v8, rfl, hv8, hb8⟩
    go_wp2_with fail
    go_ret2
    have t1 := hb5.trans (hb7.mono hb5.size)
    exact ⟨_, _, rfl, hv7.below hb8, hv8, t1.trans (hb8.mono t1.size)⟩

end Go.Proofs.Wd


namespace Go.Proofs.Wd
open Go.RowKit Lb

theorem below_dn {W : World} (nq : Nat) : Below W.heap.size W (W.drewN nq) := ⟨(Below.refl W.heap.size W).os, (Below.refl W.heap.size W).tape, (Below.refl W.heap.size W).output, (Below.refl W.heap.size W).size, (Below.refl W.heap.size W).block⟩
end Go.Proofs.Wd


namespace Go.Proofs.Wd
open Go.RowKit Lb

end Go.Proofs.Wd


namespace Go.Proofs.Wd
open Go.RowKit Lb

theorem red_swap (a b : Nat) : a / Nat.gcd a b * b = b / Nat.gcd a b * a := by
  have h1 := Nat.div_mul_cancel (Nat.gcd_dvd_left a b)
  have h2 := Nat.div_mul_cancel (Nat.gcd_dvd_right a b)
  generalize Nat.gcd a b = g at *
  have e1 : a / g * b = a / g * (b / g * g) := by rw [h2]
  have e2 : b / g * a = b / g * (a / g * g) := by rw [h1]
  rw [e1, e2, ← Nat.mul_assoc, ← Nat.mul_assoc, Nat.mul_comm (a / g)]
theorem rmul_v {W : World} {m : Nat} {v v' : Value} {a b : Nat} (h : LV W m v a) (h' : LV W m v' b) (hm : m ≤ 100000) : Calls Tryd.prog 14 #[v, v'] W (RetN W (a * b)) := by
  obtain ⟨A, n, c, l, rfl, h1, h2, h3, rfl⟩ := h
  obtain ⟨A', n', c', l', rfl, h1', h2', h3', rfl⟩ := h'
  exact (rmul_any A n c l A' n' c' l' W h1 h1' h2 h2' (by omega) (by omega)).mono fun _ _ => RetNat.v
theorem rtrim_v {W : World} {m : Nat} {v : Value} {a : Nat} (h : LV W m v a) (hm : m ≤ 100000) : Calls Tryd.prog 15 #[v] W (RetN W a) := by
  obtain ⟨A, n, c, l, rfl, h1, h2, h3, rfl⟩ := h
  exact (rtrim_any A n c l W h1 h2 (by omega)).mono fun _ _ => RetNat.v
theorem NatV.open {W : World} {v : Value} {x : Nat} (h : NatV W v x) : ∃ A n c, v = .slice A n c ∧ (x = 0 → n = 0) ∧ (0 < x → 0 < n) ∧ n ≤ c ∧ c ≤ 9223372036854775807 ∧ NatV W (.slice A n c) x := by
  obtain ⟨A, n, c, l, rfl, h1, h2⟩ := h
  have h3 := h1.zero_iff; have h4 := h1.pos_iff
  rw [h2.len] at h3 h4
  exact ⟨A, n, c, rfl, h3.1, h4.1, h2.le, h2.cap, ⟨A, n, c, l, rfl, h1, h2⟩⟩

end Go.Proofs.Wd

