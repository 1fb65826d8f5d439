/- Natural numbers as values; the walks of gcd's Reduce, Lcm, Coprime. -/
import Derived.Test.YtghgemeclgpibaaDoorGcdB
import Derived.Test.YtghgemeclgpibaaDoorProdG
import Derived.Test.YtghgemeclgpibaaDoorRefA
namespace Go.Proofs.Wd
open Go.RowKit Lb

/-- The value v reads as x, in at most m limbs. -/
def LV (W : World) (m : Nat) (v : Value) (x : Nat) : Prop := ∃ A n c l, v = .slice A n c ∧ Rd W A n c l ∧ Lt l ∧ n ≤ m ∧ val l = x
theorem LV.mk {W : World} {m : Nat} {A : Option Addr} {n c : Nat} {l : List Nat} (h : Rd W A n c l) (ht : Lt l) (hn : n ≤ m) : LV W m (.slice A n c) (val l) := ⟨A, n, c, l, rfl, h, ht, hn, rfl⟩
theorem LV.below {W W' : World} {m : Nat} {v : Value} {x : Nat} (h : LV W m v x) (hb : Below W.heap.size W W') : LV W' m v x := by
  obtain ⟨A, n, c, l, rfl, h1, h2⟩ := h
  exact ⟨A, n, c, l, rfl, h1.below hb, h2⟩
theorem LV.mono {W : World} {m m' : Nat} {v : Value} {x : Nat} (h : LV W m v x) (hm : m ≤ m') : LV W m' v x := by
  obtain ⟨A, n, c, l, rfl, h1, h2, h3, h4⟩ := h
  exact ⟨A, n, c, l, rfl, h1, h2, by omega, h4⟩
theorem LV.bound {W : World} {m : Nat} {v : Value} {x : Nat} (h : LV W m v x) : x < BB ^ m := by
  obtain ⟨A, n, c, l, rfl, h1, h2, h3, rfl⟩ := h
  exact Nat.lt_of_lt_of_le (val_lt h2) (Nat.pow_le_pow_right BB_pos (by rw [h1.len]; exact h3))
theorem NatV.lv {W : World} {v : Value} {x m : Nat} (h : NatV W v x) (hx : x < BB ^ m) : LV W m v x := by
  obtain ⟨A, n, c, l, rfl, h1, h2⟩ := h
  exact ⟨A, n, c, l, rfl, h2, h1.lt, by rw [← h2.len]; exact h1.len hx, h1.val⟩
/-- A call's answer: a number. -/
def RetN (w : World) (x : Nat) : Ending → World → Prop := fun e w' => ∃ v, e = .returned v ∧ NatV w' v x ∧ Below w.heap.size w w'
theorem RetNat.v {w : World} {x : Nat} {e : Ending} {w' : World} (h : RetNat w x e w') : RetN w x e w' := by
  obtain ⟨A, n, c, l, rfl, h1, h2, h3⟩ := h
  exact ⟨_, rfl, ⟨A, n, c, l, rfl, h1, h2⟩, h3⟩

theorem gcd_v {W : World} {m : Nat} {v v' : Value} {a b : Nat} (h : LV W m v a) (h' : LV W m v' b) (hm : m ≤ 1000) (hT : Tab W) : Calls Tryd.prog 17 #[v, v'] W (RetN W (Nat.gcd a b)) := by
  obtain ⟨A, n, c, l, rfl, h1, h2, h3, rfl⟩ := h
  obtain ⟨A', n', c', l', rfl, h1', h2', h3', rfl⟩ := h'
  exact (gcd_any A n c l A' n' c' l' W h1 h1' h2 h2' (by omega) (by omega) hT).mono fun _ _ => RetNat.v
theorem mul_v {W : World} {m : Nat} {v v' : Value} {a b : Nat} (h : LV W m v a) (h' : LV W m v' b) (hm : m ≤ 40000) : Calls Tryd.prog 54 #[v, v'] W (RetN W (a * b)) := by
  obtain ⟨A, n, c, l, rfl, h1, h2, h3, rfl⟩ := h
  obtain ⟨A', n', c', l', rfl, h1', h2', h3', rfl⟩ := h'
  exact (mul_any A n c l A' n' c' l' W h1 h1' h2 h2' (by omega) (by omega)).mono fun _ _ => RetNat.v
/-- A call's answer: two numbers. -/
def RetN2 (w : World) (x y : Nat) : Ending → World → Prop := fun e w' => ∃ v v', e = .returned (.tuple #[v, v']) ∧ NatV w' v x ∧ NatV w' v' y ∧ Below w.heap.size w w'

theorem gcd_lt {a b m : Nat} (ha : a < BB ^ m) (hb : b < BB ^ m) : Nat.gcd a b < BB ^ m := by
  rcases Nat.eq_zero_or_pos a with rfl | h
  · rwa [Nat.gcd_zero_left]
  · exact Nat.lt_of_le_of_lt (Nat.gcd_le_left b h) ha

/-- The closure that divides by a number in its box. -/
theorem by1_any {m : Nat} {v vg : Value} {a g B : Nat} {W : World} (h : LV W m v a) (hg : LV W m vg g) (hm : m ≤ 1000) (hg0 : 0 < g) (hc : W.cell? ⟨B, 0, none⟩ = some vg) :
    Calls Tryd.prog 78 #[v, .pointer (some ⟨B, 0, none⟩)] W (RetN W (a / g)) := by
  obtain ⟨A, n, c, l, rfl, h1, h2, h3, h4⟩ := h
  obtain ⟨A', n', c', l', rfl, h1', h2', h3', h4'⟩ := hg
  have hd := qdiv_all a g hg0 A n c l A' n' c' l' W h1 h2 h1' h2' h4 h4' (by omega) (by omega)
  have H4 := hid h4; have H4' := hid h4'
  clear h4 h4'
  go_enter Tryd.func78, Tryd.ntmps78
  go_wp2_with fail
  refine hd.mono ?_
  rintro e w4 ⟨A4, n4, c4, l4, A5, n5, c5, l5, rfl, hi4, hr4, hi5, hr5, hb5⟩
  go_wp2_with fail
  go_ret
  exact ⟨_, rfl, ⟨A4, n4, c4, l4, rfl, hi4, hr4⟩, hb5⟩

theorem by_any (A : Option Addr) (n c : Nat) (w : World) :
    Calls Tryd.prog 48 #[.slice A n c] w fun e w' => e = .returned (.func (.func 78) #[] #[.pointer (some ⟨w.heap.size, 0, none⟩)]) ∧ w' = w.alloc (.cells #[.slice A n c] 23) := by
  go_enter Tryd.func48, Tryd.ntmps48
  go_wp2
  go_ret
  exact ⟨rfl, rfl⟩

set_option maxHeartbeats 1000000 in
theorem reduce_v {W : World} {m : Nat} {v v' : Value} {a b : Nat} (h : LV W m v a) (h' : LV W m v' b) (hm : m ≤ 1000) (hT : Tab W) : Calls Tryd.prog 12 #[v, v'] W (RetN2 W (a / Nat.gcd a b) (b / Nat.gcd a b)) := by
  have hgc := gcd_v h h' hm hT
  have hgl := gcd_lt h.bound h'.bound
  have hen : ∀ args w, (callFunc 78 args).run Tryd.prog w = .ok (.enter 78 args) w := enters_of Tryd.func78 (by kernel_rfl) rfl
  obtain ⟨g, hg⟩ : ∃ g, Nat.gcd a b = g := ⟨_, rfl⟩
  rw [hg] at hgc hgl ⊢
  rcases Nat.eq_zero_or_pos g with h0 | h0
  · have HZ := hid h0
    go_enter Tryd.func12, Tryd.ntmps12
    go_wp2_with fail
    refine hgc.mono ?_
    rintro e w4 ⟨v4, rfl, ⟨A4, n4, c4, l4, rfl, hi4, hr4⟩, hb4⟩
    obtain rfl : n4 = 0 := by rw [← hr4.len]; exact hi4.zero_iff.1 HZ.out
    go_wp2_with fail
    go_ret2
    exact ⟨_, _, rfl, ⟨none, 0, 0, [], rfl, by rw [HZ.out, Nat.div_zero]; exact Is.nil, Rd.nil_ _⟩, ⟨none, 0, 0, [], rfl, by rw [HZ.out, Nat.div_zero]; exact Is.nil, Rd.nil_ _⟩, hb4⟩
  · clear hg
    go_enter Tryd.func12, Tryd.ntmps12
    go_wp2_with fail
    refine hgc.mono ?_
    rintro e w4 ⟨v4, rfl, ⟨A4, n4, c4, l4, rfl, hi4, hr4⟩, hb4⟩
    have hn4 : 0 < n4 := by rw [← hr4.len]; exact hi4.pos_iff.1 h0
    have hb5 := hb4.trans ((Below.refl _ w4).alloc (Nat.le_refl _) (.cells #[.slice A4 n4 c4] 23) |>.mono hb4.size)
    have x5 := Boxed.new w4 23 (.slice A4 n4 c4)
    obtain ⟨W5, hW5⟩ : ∃ W5, w4.alloc (.cells #[.slice A4 n4 c4] 23) = W5 := ⟨_, rfl⟩
    rw [hW5] at hb5 x5
    have hg5 : LV W5 m (.slice A4 n4 c4) g := by rw [← hW5]; exact (NatV.lv ⟨A4, n4, c4, l4, rfl, hi4, hr4⟩ hgl).below ((Below.refl _ w4).alloc (Nat.le_refl _) _)
    have hby := by_any A4 n4 c4 w4
    rw [hW5] at hby
    clear hW5
    go_wp2_with fail
    refine hby.mono ?_
    rintro e w6 ⟨rfl, rfl⟩
    go_wp2_with fail
    refine (by1_any (h.below hb5) hg5 hm h0 x5.cell).mono ?_
    rintro e w7 ⟨v7, rfl, hv7, hb7⟩
    go_wp2_with fail
    refine (by1_any ((h'.below hb5).below hb7) (hg5.below hb7) hm h0 ((hb7.cell (p := ⟨w4.heap.size, 0, none⟩) (lt_of_cell x5.cell)).trans x5.cell)).mono ?_
    rintro e w8 ⟨v8, rfl, hv8, hb8⟩
    go_wp2_with fail
    go_ret2
    have t1 := hb5.trans (hb7.mono hb5.size)
    exact ⟨_, _, rfl, hv7.below hb8, hv8, t1.trans (hb8.mono t1.size)⟩

theorem lcm_v {W : World} {m : Nat} {v v' : Value} {a b : Nat} (h : LV W m v a) (h' : LV W m v' b) (hm : m ≤ 1000) (hT : Tab W) : Calls Tryd.prog 18 #[v, v'] W (RetN W (a / Nat.gcd a b * b)) := by
  have hr := reduce_v h h' hm hT
  have hlt : a / Nat.gcd a b < BB ^ m := Nat.lt_of_le_of_lt (Nat.div_le_self _ _) h.bound
  obtain ⟨x, hx⟩ : ∃ x, a / Nat.gcd a b = x := ⟨_, rfl⟩
  rw [hx] at hr hlt ⊢
  go_enter Tryd.func18, Tryd.ntmps18
  go_wp2_with fail
  refine hr.mono ?_
  rintro e w4 ⟨v4, v5, rfl, hv4, hv5, hb4⟩
  go_wp2_with fail
  refine (mul_v (hv4.lv hlt) (h'.below hb4) (by omega)).mono ?_
  rintro e w6 ⟨v6, rfl, hv6, hb6⟩
  go_wp2_with fail
  go_ret
  exact ⟨_, rfl, hv6, hb4.trans (hb6.mono hb4.size)⟩

theorem coprime_v {W : World} {m : Nat} {v v' : Value} {a b : Nat} (h : LV W m v a) (h' : LV W m v' b) (hm : m ≤ 1000) (hT : Tab W) : Calls Tryd.prog 16 #[v, v'] W fun e w' => e = .returned (.bool (Nat.gcd a b == 1)) ∧ Below W.heap.size W w' := by
  have hgc := gcd_v h h' hm hT
  obtain ⟨g, hg⟩ : ∃ g, Nat.gcd a b = g := ⟨_, rfl⟩
  rw [hg] at hgc ⊢
  clear hg
  have fin : isSmall g = false → (g == 1) = false := fun hs => beq_eq_false_iff_ne.2 (fun e => by subst e; cases hs)
  have fin2 : isSmall g = true → ((smallOf g : Int) == 1) = (g == 1) := fun hs => by
    have : smallOf g = g := if_pos (of_decide_eq_true hs)
    rw [this, Bool.eq_iff_iff]
    simp only [beq_iff_eq]; omega
  obtain ⟨sm1, h1⟩ : ∃ x, smallOf g = x := ⟨_, rfl⟩
  obtain ⟨r, hr⟩ : ∃ x, (g == 1) = x := ⟨_, rfl⟩
  rw [h1, hr] at fin2
  rw [hr] at fin ⊢
  cases hs : isSmall g
  all_goals
    have HF := hid (fin2)
    have HF1 := hid (fin)
    clear fin fin2
    go_enter Tryd.func16, Tryd.ntmps16
    go_wp2_with fail
    refine hgc.mono ?_
    rintro e w4 ⟨v4, rfl, ⟨A4, n4, c4, l4, rfl, hi4, hr4⟩, hb4⟩
    have hsm := small_any A4 n4 c4 l4 w4 hr4 hi4.lt
    rw [hi4.val, h1, hs] at hsm
    go_wp2_with fail
    refine hsm.mono ?_
    rintro e w5 ⟨rfl, rfl⟩
    go_wp2_with fail
    go_ret
    first | exact ⟨by rw [HF1.out hs]; rfl, hb4⟩ | exact ⟨by rw [← HF.out hs]; rfl, hb4⟩
end Go.Proofs.Wd
