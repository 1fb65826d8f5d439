/- The walk of straitlaw04.GcdReduces. -/
import Derived.Test.YtghgemeclgpibaaDoorGcdD
import Derived.Test.YtghgemeclgpibaaDoorRef2
namespace Go.Proofs.Wd
open Go.RowKit Lb

theorem red_swap (a b : Nat) : a / Nat.gcd a b * b = b / Nat.gcd a b * a := by
  have h1 := Nat.div_mul_cancel (Nat.gcd_dvd_left a b)
  have h2 := Nat.div_mul_cancel (Nat.gcd_dvd_right a b)
  generalize Nat.gcd a b = g at *
  have e1 : a / g * b = a / g * (b / g * g) := by rw [h2]
  have e2 : b / g * a = b / g * (a / g * g) := by rw [h1]
  rw [e1, e2, ← Nat.mul_assoc, ← Nat.mul_assoc, Nat.mul_comm (a / g)]
theorem red_cop {a b : Nat} (h : 0 < Nat.gcd a b) : Nat.gcd (a / Nat.gcd a b) (b / Nat.gcd a b) = 1 := by
  rw [Nat.gcd_div (Nat.gcd_dvd_left a b) (Nat.gcd_dvd_right a b), Nat.div_self h]
theorem red_lcm (a b : Nat) : a / Nat.gcd a b * b * Nat.gcd a b = a * b := by
  rw [Nat.mul_assoc, Nat.mul_comm b, ← Nat.mul_assoc, Nat.div_mul_cancel (Nat.gcd_dvd_left a b)]

theorem rmul_v {W : World} {m : Nat} {v v' : Value} {a b : Nat} (h : LV W m v a) (h' : LV W m v' b) (hm : m ≤ 100000) : Calls Tryd.prog 14 #[v, v'] W (RetN W (a * b)) := by
  obtain ⟨A, n, c, l, rfl, h1, h2, h3, rfl⟩ := h
  obtain ⟨A', n', c', l', rfl, h1', h2', h3', rfl⟩ := h'
  exact (rmul_any A n c l A' n' c' l' W h1 h1' h2 h2' (by omega) (by omega)).mono fun _ _ => RetNat.v
theorem rtrim_v {W : World} {m : Nat} {v : Value} {a : Nat} (h : LV W m v a) (hm : m ≤ 100000) : Calls Tryd.prog 15 #[v] W (RetN W a) := by
  obtain ⟨A, n, c, l, rfl, h1, h2, h3, rfl⟩ := h
  exact (rtrim_any A n c l W h1 h2 (by omega)).mono fun _ _ => RetNat.v
theorem NatV.open {W : World} {v : Value} {x : Nat} (h : NatV W v x) : ∃ A n c, v = .slice A n c ∧ (x = 0 → n = 0) ∧ (0 < x → 0 < n) ∧ n ≤ c ∧ c ≤ 9223372036854775807 ∧ NatV W (.slice A n c) x := by
  obtain ⟨A, n, c, l, rfl, h1, h2⟩ := h
  have h3 := h1.zero_iff; have h4 := h1.pos_iff
  rw [h2.len] at h3 h4
  exact ⟨A, n, c, rfl, h3.1, h4.1, h2.le, h2.cap, ⟨A, n, c, l, rfl, h1, h2⟩⟩

set_option maxHeartbeats 2000000 in
theorem reduces_any (A : Option Addr) (n c : Nat) (l : List Nat) (A' : Option Addr) (n' c' : Nat) (l' : List Nat) (w : World) (h : Rd w A n c l) (ht : Lt l) (h' : Rd w A' n' c' l') (ht' : Lt l') (hT : Tab w) :
    Calls Tryd.prog 3 #[.slice A n c, .slice A' n' c'] w fun e w' => e = .returned (.bool true) ∧ Below w.heap.size w w' := by
  have hle := h.le; have hcap := h.cap; have hle' := h'.le; have hcap' := h'.cap
  obtain ⟨M, hM⟩ : ∃ M, max n n' = M := ⟨_, rfl⟩
  have hmax : max (n : Int) (n' : Int) = (M : Int) := by omega
  rcases Nat.lt_or_ge 8 M with hbig | hsm
  · clear hM
    go_enter Tryd.func3, Tryd.ntmps3
    go_wp2_with fail
    refine (wakes4_any _ hT).mono ?_
    rintro e w1 ⟨rfl, b1⟩
    go_wp2_with fail
    go_ret
    exact ⟨rfl, b1⟩
  have la : LV w 8 (.slice A n c) (val l) := LV.mk h ht (by omega)
  have lb : LV w 8 (.slice A' n' c') (val l') := LV.mk h' ht' (by omega)
  clear hM h h' ht ht'
  obtain ⟨a, ha⟩ : ∃ a, val l = a := ⟨_, rfl⟩
  obtain ⟨b, hb⟩ : ∃ b, val l' = b := ⟨_, rfl⟩
  rw [ha] at la
  rw [hb] at lb
  clear ha hb
  have hxa : a / Nat.gcd a b < BB ^ 8 := Nat.lt_of_le_of_lt (Nat.div_le_self _ _) la.bound
  have hyb : b / Nat.gcd a b < BB ^ 8 := Nat.lt_of_le_of_lt (Nat.div_le_self _ _) lb.bound
  have hgl := gcd_lt la.bound lb.bound
  have hml : a / Nat.gcd a b * b < BB ^ 16 := by
    rw [show (16 : Nat) = 8 + 8 from rfl, Nat.pow_add]
    exact Nat.mul_lt_mul_of_lt_of_le hxa (Nat.le_of_lt lb.bound) (Nat.pow_pos BB_pos)
  have hsw := red_swap a b
  have hcp := fun h0 => @red_cop a b h0
  have hlc := red_lcm a b
  have hda := Nat.div_mul_cancel (Nat.gcd_dvd_left a b)
  have hdb := Nat.div_mul_cancel (Nat.gcd_dvd_right a b)
  have hrd := fun (W : World) (hb : Below w.heap.size w W) => reduce_v (la.below hb) (lb.below hb) (by decide) (hT.below hb)
  have hgg := fun (W : World) (hb : Below w.heap.size w W) => gcd_v (la.below hb) (lb.below hb) (by decide) (hT.below hb)
  have hll := fun (W : World) (hb : Below w.heap.size w W) => lcm_v (la.below hb) (lb.below hb) (by decide) (hT.below hb)
  have hcc := fun (W : World) (hb : Below w.heap.size w W) => coprime_v (la.below hb) (lb.below hb) (by decide) (hT.below hb)
  have hga := Nat.eq_zero_of_gcd_eq_zero_left (m := a) (n := b)
  have hgb := Nat.eq_zero_of_gcd_eq_zero_right (m := a) (n := b)
  have hg0 : a = 0 → b = 0 → Nat.gcd a b = 0 := fun h1 h2 => by rw [h1, h2]; rfl
  obtain ⟨x, hx⟩ : ∃ x, a / Nat.gcd a b = x := ⟨_, rfl⟩
  obtain ⟨y, hy⟩ : ∃ y, b / Nat.gcd a b = y := ⟨_, rfl⟩
  have hx0 : a = 0 → b = 0 → x = 0 := fun h1 h2 => by rw [← hx, h1, Nat.zero_div]
  have hy0 : a = 0 → b = 0 → y = 0 := fun h1 h2 => by rw [← hy, h2, Nat.zero_div]
  simp only [hx, hy] at hxa hyb hml hsw hcp hlc hda hdb hrd hll
  obtain ⟨g, hg⟩ : ∃ g, Nat.gcd a b = g := ⟨_, rfl⟩
  obtain ⟨m, hm⟩ : ∃ m, x * b = m := ⟨_, rfl⟩
  simp only [hg] at hgl hcp hlc hda hdb hgg hcc hga hgb hg0
  rw [hm] at hml hlc
  simp only [hm] at hll
  have HSW := hid hsw; have HCP := hid hcp; have HLC := hid hlc; have HDA := hid hda; have HDB := hid hdb
  have HGA := hid hga; have HGB := hid hgb; have HG0 := hid hg0; have HX0 := hid hx0; have HY0 := hid hy0
  have HM := hid hm
  clear hsw hcp hlc hda hdb hga hgb hg0 hx0 hy0 hx hy hg hm
  have HRD := hid hrd; have HGG := hid hgg; have HLL := hid hll; have HCC := hid hcc
  clear hrd hgg hll hcc
  rcases (by omega : (a = 0 ∧ b = 0) ∨ 0 < a ∨ (a = 0 ∧ 0 < b)) with ⟨ha0, hb0⟩ | ha0 | ⟨ha0, hb0⟩
  · have HA := hid ha0; have HBZ := hid hb0; clear ha0 hb0
    go_enter Tryd.func3, Tryd.ntmps3
    go_wp2_with fail
    refine (HRD.out _ (Below.refl _ w)).mono ?_
    rintro e w1 ⟨vx, vy, rfl, hx, hy, b1⟩
    have d0_1 := b1
    have qx := HX0.out HA.out HBZ.out
    have qy := HY0.out HA.out HBZ.out
    obtain ⟨Ax, nx, cx, rfl, zx, px, ix, jx, hx⟩ := hx.open
    have rx := zx qx; subst rx; clear zx px qx
    obtain ⟨Ay, ny, cy, rfl, zy, py, iy, jy, hy⟩ := hy.open
    have ry := zy qy; subst ry; clear zy py qy
    go_wp2_with fail
    refine (rmul_v (hx.lv hxa) (lb.below d0_1) (by decide)).mono ?_
    rintro e w2 ⟨vxb, rfl, hxb, b2⟩
    have d0_2 := d0_1.trans (b2.mono d0_1.size)
    have d1_2 := b2
    go_wp2_with fail
    refine (rmul_v ((hy.below d1_2).lv hyb) (la.below d0_2) (by decide)).mono ?_
    rintro e w3 ⟨vya, rfl, hya, b3⟩
    have d0_3 := d0_2.trans (b3.mono d0_2.size)
    have d1_3 := d1_2.trans (b3.mono d1_2.size)
    have d2_3 := b3
    go_wp2_with fail
    refine (r4same_t (hxb.below d2_3) hya (by first | exact HSW.out | (rw [HM.out]; exact HSW.out))).mono ?_
    rintro e w4 ⟨rfl, b4⟩
    have d0_4 := d0_3.trans (b4.mono d0_3.size)
    have d1_4 := d1_3.trans (b4.mono d1_3.size)
    have d2_4 := d2_3.trans (b4.mono d2_3.size)
    have d3_4 := b4
    go_wp2_with fail
    refine (rtrim_v (la.below d0_4) (by decide)).mono ?_
    rintro e w5 ⟨vta, rfl, hta, b5⟩
    have d0_5 := d0_4.trans (b5.mono d0_4.size)
    have d1_5 := d1_4.trans (b5.mono d1_4.size)
    have d2_5 := d2_4.trans (b5.mono d2_4.size)
    have d3_5 := d3_4.trans (b5.mono d3_4.size)
    have d4_5 := b5
    obtain ⟨Ata, nta, cta, rfl, zta, pta, ita, jta, hta⟩ := hta.open
    have qta := zta HA.out; subst qta; clear zta pta
    go_wp2_with fail
    refine (rtrim_v (lb.below d0_5) (by decide)).mono ?_
    rintro e w6 ⟨vtb, rfl, htb, b6⟩
    have d0_6 := d0_5.trans (b6.mono d0_5.size)
    have d1_6 := d1_5.trans (b6.mono d1_5.size)
    have d2_6 := d2_5.trans (b6.mono d2_5.size)
    have d3_6 := d3_5.trans (b6.mono d3_5.size)
    have d4_6 := d4_5.trans (b6.mono d4_5.size)
    have d5_6 := b6
    obtain ⟨Atb, ntb, ctb, rfl, ztb, ptb, itb, jtb, htb⟩ := htb.open
    have qtb := ztb HBZ.out; subst qtb; clear ztb ptb
    have hcz := HCC.out w6 d0_6
    rw [show (g == 1) = false from by rw [HG0.out HA.out HBZ.out]; rfl] at hcz
    go_wp2_with fail
    refine (hcz).mono ?_
    rintro e w7 ⟨rfl, b7⟩
    have d0_7 := d0_6.trans (b7.mono d0_6.size)
    have d1_7 := d1_6.trans (b7.mono d1_6.size)
    have d2_7 := d2_6.trans (b7.mono d2_6.size)
    have d3_7 := d3_6.trans (b7.mono d3_6.size)
    have d4_7 := d4_6.trans (b7.mono d4_6.size)
    have d5_7 := d5_6.trans (b7.mono d5_6.size)
    have d6_7 := b7
    go_wp2_with fail
    refine (wakes4_any _ (hT.below d0_7)).mono ?_
    rintro e w8 ⟨rfl, b8⟩
    have d0_8 := d0_7.trans (b8.mono d0_7.size)
    have d1_8 := d1_7.trans (b8.mono d1_7.size)
    have d2_8 := d2_7.trans (b8.mono d2_7.size)
    have d3_8 := d3_7.trans (b8.mono d3_7.size)
    have d4_8 := d4_7.trans (b8.mono d4_7.size)
    have d5_8 := d5_7.trans (b8.mono d5_7.size)
    have d6_8 := d6_7.trans (b8.mono d6_7.size)
    have d7_8 := b8
    go_wp2_with fail
    go_ret
    exact ⟨rfl, d0_8⟩
  · have hgp : 0 < g := Nat.pos_of_ne_zero (fun e => by have h1 := HGA.out e; have h2 := HGB.out e; omega)
    go_enter Tryd.func3, Tryd.ntmps3
    go_wp2_with fail
    refine (HRD.out _ (Below.refl _ w)).mono ?_
    rintro e w1 ⟨vx, vy, rfl, hx, hy, b1⟩
    have d0_1 := b1
    go_wp2_with fail
    refine (rmul_v (hx.lv hxa) (lb.below d0_1) (by decide)).mono ?_
    rintro e w2 ⟨vxb, rfl, hxb, b2⟩
    have d0_2 := d0_1.trans (b2.mono d0_1.size)
    have d1_2 := b2
    go_wp2_with fail
    refine (rmul_v ((hy.below d1_2).lv hyb) (la.below d0_2) (by decide)).mono ?_
    rintro e w3 ⟨vya, rfl, hya, b3⟩
    have d0_3 := d0_2.trans (b3.mono d0_2.size)
    have d1_3 := d1_2.trans (b3.mono d1_2.size)
    have d2_3 := b3
    go_wp2_with fail
    refine (r4same_t (hxb.below d2_3) hya (by first | exact HSW.out | (rw [HM.out]; exact HSW.out))).mono ?_
    rintro e w4 ⟨rfl, b4⟩
    have d0_4 := d0_3.trans (b4.mono d0_3.size)
    have d1_4 := d1_3.trans (b4.mono d1_3.size)
    have d2_4 := d2_3.trans (b4.mono d2_3.size)
    have d3_4 := b4
    go_wp2_with fail
    refine (rtrim_v (la.below d0_4) (by decide)).mono ?_
    rintro e w5 ⟨vta, rfl, hta, b5⟩
    have d0_5 := d0_4.trans (b5.mono d0_4.size)
    have d1_5 := d1_4.trans (b5.mono d1_4.size)
    have d2_5 := d2_4.trans (b5.mono d2_4.size)
    have d3_5 := d3_4.trans (b5.mono d3_4.size)
    have d4_5 := b5
    obtain ⟨Ata, nta, cta, rfl, zta, pta, ita, jta, hta⟩ := hta.open
    have qta := pta (by omega); clear zta pta
    go_wp2_with fail
    refine (HGG.out _ d0_5).mono ?_
    rintro e w6 ⟨vg, rfl, hg, b6⟩
    have d0_6 := d0_5.trans (b6.mono d0_5.size)
    have d1_6 := d1_5.trans (b6.mono d1_5.size)
    have d2_6 := d2_5.trans (b6.mono d2_5.size)
    have d3_6 := d3_5.trans (b6.mono d3_5.size)
    have d4_6 := d4_5.trans (b6.mono d4_5.size)
    have d5_6 := b6
    go_wp2_with fail
    refine (HLL.out _ d0_6).mono ?_
    rintro e w7 ⟨vm, rfl, hm, b7⟩
    have d0_7 := d0_6.trans (b7.mono d0_6.size)
    have d1_7 := d1_6.trans (b7.mono d1_6.size)
    have d2_7 := d2_6.trans (b7.mono d2_6.size)
    have d3_7 := d3_6.trans (b7.mono d3_6.size)
    have d4_7 := d4_6.trans (b7.mono d4_6.size)
    have d5_7 := d5_6.trans (b7.mono d5_6.size)
    have d6_7 := b7
    go_wp2_with fail
    have hcq := coprime_v ((hx.below d1_7).lv hxa) ((hy.below d1_7).lv hyb) (by decide) (hT.below d0_7)
    rw [HCP.out hgp, show ((1 : Nat) == 1) = true from rfl] at hcq
    refine (hcq).mono ?_
    rintro e w8 ⟨rfl, b8⟩
    have d0_8 := d0_7.trans (b8.mono d0_7.size)
    have d1_8 := d1_7.trans (b8.mono d1_7.size)
    have d2_8 := d2_7.trans (b8.mono d2_7.size)
    have d3_8 := d3_7.trans (b8.mono d3_7.size)
    have d4_8 := d4_7.trans (b8.mono d4_7.size)
    have d5_8 := d5_7.trans (b8.mono d5_7.size)
    have d6_8 := d6_7.trans (b8.mono d6_7.size)
    have d7_8 := b8
    go_wp2_with fail
    refine (rmul_v ((hx.below d1_8).lv hxa) ((hg.below d6_8).lv hgl) (by decide)).mono ?_
    rintro e w9 ⟨vp1, rfl, hp1, b9⟩
    have d0_9 := d0_8.trans (b9.mono d0_8.size)
    have d1_9 := d1_8.trans (b9.mono d1_8.size)
    have d2_9 := d2_8.trans (b9.mono d2_8.size)
    have d3_9 := d3_8.trans (b9.mono d3_8.size)
    have d4_9 := d4_8.trans (b9.mono d4_8.size)
    have d5_9 := d5_8.trans (b9.mono d5_8.size)
    have d6_9 := d6_8.trans (b9.mono d6_8.size)
    have d7_9 := d7_8.trans (b9.mono d7_8.size)
    have d8_9 := b9
    go_wp2_with fail
    refine (rtrim_v (la.below d0_9) (by decide)).mono ?_
    rintro e w10 ⟨vp2, rfl, hp2, b10⟩
    have d0_10 := d0_9.trans (b10.mono d0_9.size)
    have d1_10 := d1_9.trans (b10.mono d1_9.size)
    have d2_10 := d2_9.trans (b10.mono d2_9.size)
    have d3_10 := d3_9.trans (b10.mono d3_9.size)
    have d4_10 := d4_9.trans (b10.mono d4_9.size)
    have d5_10 := d5_9.trans (b10.mono d5_9.size)
    have d6_10 := d6_9.trans (b10.mono d6_9.size)
    have d7_10 := d7_9.trans (b10.mono d7_9.size)
    have d8_10 := d8_9.trans (b10.mono d8_9.size)
    have d9_10 := b10
    go_wp2_with fail
    refine (r4same_t (hp1.below d9_10) hp2 HDA.out).mono ?_
    rintro e w11 ⟨rfl, b11⟩
    have d0_11 := d0_10.trans (b11.mono d0_10.size)
    have d1_11 := d1_10.trans (b11.mono d1_10.size)
    have d2_11 := d2_10.trans (b11.mono d2_10.size)
    have d3_11 := d3_10.trans (b11.mono d3_10.size)
    have d4_11 := d4_10.trans (b11.mono d4_10.size)
    have d5_11 := d5_10.trans (b11.mono d5_10.size)
    have d6_11 := d6_10.trans (b11.mono d6_10.size)
    have d7_11 := d7_10.trans (b11.mono d7_10.size)
    have d8_11 := d8_10.trans (b11.mono d8_10.size)
    have d9_11 := d9_10.trans (b11.mono d9_10.size)
    have d10_11 := b11
    go_wp2_with fail
    refine (rmul_v ((hy.below d1_11).lv hyb) ((hg.below d6_11).lv hgl) (by decide)).mono ?_
    rintro e w12 ⟨vp3, rfl, hp3, b12⟩
    have d0_12 := d0_11.trans (b12.mono d0_11.size)
    have d1_12 := d1_11.trans (b12.mono d1_11.size)
    have d2_12 := d2_11.trans (b12.mono d2_11.size)
    have d3_12 := d3_11.trans (b12.mono d3_11.size)
    have d4_12 := d4_11.trans (b12.mono d4_11.size)
    have d5_12 := d5_11.trans (b12.mono d5_11.size)
    have d6_12 := d6_11.trans (b12.mono d6_11.size)
    have d7_12 := d7_11.trans (b12.mono d7_11.size)
    have d8_12 := d8_11.trans (b12.mono d8_11.size)
    have d9_12 := d9_11.trans (b12.mono d9_11.size)
    have d10_12 := d10_11.trans (b12.mono d10_11.size)
    have d11_12 := b12
    go_wp2_with fail
    refine (rtrim_v (lb.below d0_12) (by decide)).mono ?_
    rintro e w13 ⟨vp4, rfl, hp4, b13⟩
    have d0_13 := d0_12.trans (b13.mono d0_12.size)
    have d1_13 := d1_12.trans (b13.mono d1_12.size)
    have d2_13 := d2_12.trans (b13.mono d2_12.size)
    have d3_13 := d3_12.trans (b13.mono d3_12.size)
    have d4_13 := d4_12.trans (b13.mono d4_12.size)
    have d5_13 := d5_12.trans (b13.mono d5_12.size)
    have d6_13 := d6_12.trans (b13.mono d6_12.size)
    have d7_13 := d7_12.trans (b13.mono d7_12.size)
    have d8_13 := d8_12.trans (b13.mono d8_12.size)
    have d9_13 := d9_12.trans (b13.mono d9_12.size)
    have d10_13 := d10_12.trans (b13.mono d10_12.size)
    have d11_13 := d11_12.trans (b13.mono d11_12.size)
    have d12_13 := b13
    go_wp2_with fail
    refine (r4same_t (hp3.below d12_13) hp4 HDB.out).mono ?_
    rintro e w14 ⟨rfl, b14⟩
    have d0_14 := d0_13.trans (b14.mono d0_13.size)
    have d1_14 := d1_13.trans (b14.mono d1_13.size)
    have d2_14 := d2_13.trans (b14.mono d2_13.size)
    have d3_14 := d3_13.trans (b14.mono d3_13.size)
    have d4_14 := d4_13.trans (b14.mono d4_13.size)
    have d5_14 := d5_13.trans (b14.mono d5_13.size)
    have d6_14 := d6_13.trans (b14.mono d6_13.size)
    have d7_14 := d7_13.trans (b14.mono d7_13.size)
    have d8_14 := d8_13.trans (b14.mono d8_13.size)
    have d9_14 := d9_13.trans (b14.mono d9_13.size)
    have d10_14 := d10_13.trans (b14.mono d10_13.size)
    have d11_14 := d11_13.trans (b14.mono d11_13.size)
    have d12_14 := d12_13.trans (b14.mono d12_13.size)
    have d13_14 := b14
    go_wp2_with fail
    refine (rmul_v ((hm.below d7_14).lv hml) (((hg.below d6_14).lv hgl).mono (by decide)) (by decide)).mono ?_
    rintro e w15 ⟨vp5, rfl, hp5, b15⟩
    have d0_15 := d0_14.trans (b15.mono d0_14.size)
    have d1_15 := d1_14.trans (b15.mono d1_14.size)
    have d2_15 := d2_14.trans (b15.mono d2_14.size)
    have d3_15 := d3_14.trans (b15.mono d3_14.size)
    have d4_15 := d4_14.trans (b15.mono d4_14.size)
    have d5_15 := d5_14.trans (b15.mono d5_14.size)
    have d6_15 := d6_14.trans (b15.mono d6_14.size)
    have d7_15 := d7_14.trans (b15.mono d7_14.size)
    have d8_15 := d8_14.trans (b15.mono d8_14.size)
    have d9_15 := d9_14.trans (b15.mono d9_14.size)
    have d10_15 := d10_14.trans (b15.mono d10_14.size)
    have d11_15 := d11_14.trans (b15.mono d11_14.size)
    have d12_15 := d12_14.trans (b15.mono d12_14.size)
    have d13_15 := d13_14.trans (b15.mono d13_14.size)
    have d14_15 := b15
    go_wp2_with fail
    refine (rmul_v (la.below d0_15) (lb.below d0_15) (by decide)).mono ?_
    rintro e w16 ⟨vp6, rfl, hp6, b16⟩
    have d0_16 := d0_15.trans (b16.mono d0_15.size)
    have d1_16 := d1_15.trans (b16.mono d1_15.size)
    have d2_16 := d2_15.trans (b16.mono d2_15.size)
    have d3_16 := d3_15.trans (b16.mono d3_15.size)
    have d4_16 := d4_15.trans (b16.mono d4_15.size)
    have d5_16 := d5_15.trans (b16.mono d5_15.size)
    have d6_16 := d6_15.trans (b16.mono d6_15.size)
    have d7_16 := d7_15.trans (b16.mono d7_15.size)
    have d8_16 := d8_15.trans (b16.mono d8_15.size)
    have d9_16 := d9_15.trans (b16.mono d9_15.size)
    have d10_16 := d10_15.trans (b16.mono d10_15.size)
    have d11_16 := d11_15.trans (b16.mono d11_15.size)
    have d12_16 := d12_15.trans (b16.mono d12_15.size)
    have d13_16 := d13_15.trans (b16.mono d13_15.size)
    have d14_16 := d14_15.trans (b16.mono d14_15.size)
    have d15_16 := b16
    go_wp2_with fail
    refine (r4same_t (hp5.below d15_16) hp6 HLC.out).mono ?_
    rintro e w17 ⟨rfl, b17⟩
    have d0_17 := d0_16.trans (b17.mono d0_16.size)
    have d1_17 := d1_16.trans (b17.mono d1_16.size)
    have d2_17 := d2_16.trans (b17.mono d2_16.size)
    have d3_17 := d3_16.trans (b17.mono d3_16.size)
    have d4_17 := d4_16.trans (b17.mono d4_16.size)
    have d5_17 := d5_16.trans (b17.mono d5_16.size)
    have d6_17 := d6_16.trans (b17.mono d6_16.size)
    have d7_17 := d7_16.trans (b17.mono d7_16.size)
    have d8_17 := d8_16.trans (b17.mono d8_16.size)
    have d9_17 := d9_16.trans (b17.mono d9_16.size)
    have d10_17 := d10_16.trans (b17.mono d10_16.size)
    have d11_17 := d11_16.trans (b17.mono d11_16.size)
    have d12_17 := d12_16.trans (b17.mono d12_16.size)
    have d13_17 := d13_16.trans (b17.mono d13_16.size)
    have d14_17 := d14_16.trans (b17.mono d14_16.size)
    have d15_17 := d15_16.trans (b17.mono d15_16.size)
    have d16_17 := b17
    go_wp2_with fail
    refine (wakes4_any _ (hT.below d0_17)).mono ?_
    rintro e w18 ⟨rfl, b18⟩
    have d0_18 := d0_17.trans (b18.mono d0_17.size)
    have d1_18 := d1_17.trans (b18.mono d1_17.size)
    have d2_18 := d2_17.trans (b18.mono d2_17.size)
    have d3_18 := d3_17.trans (b18.mono d3_17.size)
    have d4_18 := d4_17.trans (b18.mono d4_17.size)
    have d5_18 := d5_17.trans (b18.mono d5_17.size)
    have d6_18 := d6_17.trans (b18.mono d6_17.size)
    have d7_18 := d7_17.trans (b18.mono d7_17.size)
    have d8_18 := d8_17.trans (b18.mono d8_17.size)
    have d9_18 := d9_17.trans (b18.mono d9_17.size)
    have d10_18 := d10_17.trans (b18.mono d10_17.size)
    have d11_18 := d11_17.trans (b18.mono d11_17.size)
    have d12_18 := d12_17.trans (b18.mono d12_17.size)
    have d13_18 := d13_17.trans (b18.mono d13_17.size)
    have d14_18 := d14_17.trans (b18.mono d14_17.size)
    have d15_18 := d15_17.trans (b18.mono d15_17.size)
    have d16_18 := d16_17.trans (b18.mono d16_17.size)
    have d17_18 := b18
    go_wp2_with fail
    go_ret
    exact ⟨rfl, d0_18⟩
  · have hgp : 0 < g := Nat.pos_of_ne_zero (fun e => by have h1 := HGA.out e; have h2 := HGB.out e; omega)
    have HA := hid ha0; clear ha0
    go_enter Tryd.func3, Tryd.ntmps3
    go_wp2_with fail
    refine (HRD.out _ (Below.refl _ w)).mono ?_
    rintro e w1 ⟨vx, vy, rfl, hx, hy, b1⟩
    have d0_1 := b1
    go_wp2_with fail
    refine (rmul_v (hx.lv hxa) (lb.below d0_1) (by decide)).mono ?_
    rintro e w2 ⟨vxb, rfl, hxb, b2⟩
    have d0_2 := d0_1.trans (b2.mono d0_1.size)
    have d1_2 := b2
    go_wp2_with fail
    refine (rmul_v ((hy.below d1_2).lv hyb) (la.below d0_2) (by decide)).mono ?_
    rintro e w3 ⟨vya, rfl, hya, b3⟩
    have d0_3 := d0_2.trans (b3.mono d0_2.size)
    have d1_3 := d1_2.trans (b3.mono d1_2.size)
    have d2_3 := b3
    go_wp2_with fail
    refine (r4same_t (hxb.below d2_3) hya (by first | exact HSW.out | (rw [HM.out]; exact HSW.out))).mono ?_
    rintro e w4 ⟨rfl, b4⟩
    have d0_4 := d0_3.trans (b4.mono d0_3.size)
    have d1_4 := d1_3.trans (b4.mono d1_3.size)
    have d2_4 := d2_3.trans (b4.mono d2_3.size)
    have d3_4 := b4
    go_wp2_with fail
    refine (rtrim_v (la.below d0_4) (by decide)).mono ?_
    rintro e w5 ⟨vta, rfl, hta, b5⟩
    have d0_5 := d0_4.trans (b5.mono d0_4.size)
    have d1_5 := d1_4.trans (b5.mono d1_4.size)
    have d2_5 := d2_4.trans (b5.mono d2_4.size)
    have d3_5 := d3_4.trans (b5.mono d3_4.size)
    have d4_5 := b5
    obtain ⟨Ata, nta, cta, rfl, zta, pta, ita, jta, hta⟩ := hta.open
    have qta := zta HA.out; subst qta; clear zta pta
    go_wp2_with fail
    refine (rtrim_v (lb.below d0_5) (by decide)).mono ?_
    rintro e w6 ⟨vtb, rfl, htb, b6⟩
    have d0_6 := d0_5.trans (b6.mono d0_5.size)
    have d1_6 := d1_5.trans (b6.mono d1_5.size)
    have d2_6 := d2_5.trans (b6.mono d2_5.size)
    have d3_6 := d3_5.trans (b6.mono d3_5.size)
    have d4_6 := d4_5.trans (b6.mono d4_5.size)
    have d5_6 := b6
    obtain ⟨Atb, ntb, ctb, rfl, ztb, ptb, itb, jtb, htb⟩ := htb.open
    have qtb := ptb (by omega); clear ztb ptb
    go_wp2_with fail
    refine (HGG.out _ d0_6).mono ?_
    rintro e w7 ⟨vg, rfl, hg, b7⟩
    have d0_7 := d0_6.trans (b7.mono d0_6.size)
    have d1_7 := d1_6.trans (b7.mono d1_6.size)
    have d2_7 := d2_6.trans (b7.mono d2_6.size)
    have d3_7 := d3_6.trans (b7.mono d3_6.size)
    have d4_7 := d4_6.trans (b7.mono d4_6.size)
    have d5_7 := d5_6.trans (b7.mono d5_6.size)
    have d6_7 := b7
    go_wp2_with fail
    refine (HLL.out _ d0_7).mono ?_
    rintro e w8 ⟨vm, rfl, hm, b8⟩
    have d0_8 := d0_7.trans (b8.mono d0_7.size)
    have d1_8 := d1_7.trans (b8.mono d1_7.size)
    have d2_8 := d2_7.trans (b8.mono d2_7.size)
    have d3_8 := d3_7.trans (b8.mono d3_7.size)
    have d4_8 := d4_7.trans (b8.mono d4_7.size)
    have d5_8 := d5_7.trans (b8.mono d5_7.size)
    have d6_8 := d6_7.trans (b8.mono d6_7.size)
    have d7_8 := b8
    go_wp2_with fail
    have hcq := coprime_v ((hx.below d1_8).lv hxa) ((hy.below d1_8).lv hyb) (by decide) (hT.below d0_8)
    rw [HCP.out hgp, show ((1 : Nat) == 1) = true from rfl] at hcq
    refine (hcq).mono ?_
    rintro e w9 ⟨rfl, b9⟩
    have d0_9 := d0_8.trans (b9.mono d0_8.size)
    have d1_9 := d1_8.trans (b9.mono d1_8.size)
    have d2_9 := d2_8.trans (b9.mono d2_8.size)
    have d3_9 := d3_8.trans (b9.mono d3_8.size)
    have d4_9 := d4_8.trans (b9.mono d4_8.size)
    have d5_9 := d5_8.trans (b9.mono d5_8.size)
    have d6_9 := d6_8.trans (b9.mono d6_8.size)
    have d7_9 := d7_8.trans (b9.mono d7_8.size)
    have d8_9 := b9
    go_wp2_with fail
    refine (rmul_v ((hx.below d1_9).lv hxa) ((hg.below d7_9).lv hgl) (by decide)).mono ?_
    rintro e w10 ⟨vp1, rfl, hp1, b10⟩
    have d0_10 := d0_9.trans (b10.mono d0_9.size)
    have d1_10 := d1_9.trans (b10.mono d1_9.size)
    have d2_10 := d2_9.trans (b10.mono d2_9.size)
    have d3_10 := d3_9.trans (b10.mono d3_9.size)
    have d4_10 := d4_9.trans (b10.mono d4_9.size)
    have d5_10 := d5_9.trans (b10.mono d5_9.size)
    have d6_10 := d6_9.trans (b10.mono d6_9.size)
    have d7_10 := d7_9.trans (b10.mono d7_9.size)
    have d8_10 := d8_9.trans (b10.mono d8_9.size)
    have d9_10 := b10
    go_wp2_with fail
    refine (rtrim_v (la.below d0_10) (by decide)).mono ?_
    rintro e w11 ⟨vp2, rfl, hp2, b11⟩
    have d0_11 := d0_10.trans (b11.mono d0_10.size)
    have d1_11 := d1_10.trans (b11.mono d1_10.size)
    have d2_11 := d2_10.trans (b11.mono d2_10.size)
    have d3_11 := d3_10.trans (b11.mono d3_10.size)
    have d4_11 := d4_10.trans (b11.mono d4_10.size)
    have d5_11 := d5_10.trans (b11.mono d5_10.size)
    have d6_11 := d6_10.trans (b11.mono d6_10.size)
    have d7_11 := d7_10.trans (b11.mono d7_10.size)
    have d8_11 := d8_10.trans (b11.mono d8_10.size)
    have d9_11 := d9_10.trans (b11.mono d9_10.size)
    have d10_11 := b11
    go_wp2_with fail
    refine (r4same_t (hp1.below d10_11) hp2 HDA.out).mono ?_
    rintro e w12 ⟨rfl, b12⟩
    have d0_12 := d0_11.trans (b12.mono d0_11.size)
    have d1_12 := d1_11.trans (b12.mono d1_11.size)
    have d2_12 := d2_11.trans (b12.mono d2_11.size)
    have d3_12 := d3_11.trans (b12.mono d3_11.size)
    have d4_12 := d4_11.trans (b12.mono d4_11.size)
    have d5_12 := d5_11.trans (b12.mono d5_11.size)
    have d6_12 := d6_11.trans (b12.mono d6_11.size)
    have d7_12 := d7_11.trans (b12.mono d7_11.size)
    have d8_12 := d8_11.trans (b12.mono d8_11.size)
    have d9_12 := d9_11.trans (b12.mono d9_11.size)
    have d10_12 := d10_11.trans (b12.mono d10_11.size)
    have d11_12 := b12
    go_wp2_with fail
    refine (rmul_v ((hy.below d1_12).lv hyb) ((hg.below d7_12).lv hgl) (by decide)).mono ?_
    rintro e w13 ⟨vp3, rfl, hp3, b13⟩
    have d0_13 := d0_12.trans (b13.mono d0_12.size)
    have d1_13 := d1_12.trans (b13.mono d1_12.size)
    have d2_13 := d2_12.trans (b13.mono d2_12.size)
    have d3_13 := d3_12.trans (b13.mono d3_12.size)
    have d4_13 := d4_12.trans (b13.mono d4_12.size)
    have d5_13 := d5_12.trans (b13.mono d5_12.size)
    have d6_13 := d6_12.trans (b13.mono d6_12.size)
    have d7_13 := d7_12.trans (b13.mono d7_12.size)
    have d8_13 := d8_12.trans (b13.mono d8_12.size)
    have d9_13 := d9_12.trans (b13.mono d9_12.size)
    have d10_13 := d10_12.trans (b13.mono d10_12.size)
    have d11_13 := d11_12.trans (b13.mono d11_12.size)
    have d12_13 := b13
    go_wp2_with fail
    refine (rtrim_v (lb.below d0_13) (by decide)).mono ?_
    rintro e w14 ⟨vp4, rfl, hp4, b14⟩
    have d0_14 := d0_13.trans (b14.mono d0_13.size)
    have d1_14 := d1_13.trans (b14.mono d1_13.size)
    have d2_14 := d2_13.trans (b14.mono d2_13.size)
    have d3_14 := d3_13.trans (b14.mono d3_13.size)
    have d4_14 := d4_13.trans (b14.mono d4_13.size)
    have d5_14 := d5_13.trans (b14.mono d5_13.size)
    have d6_14 := d6_13.trans (b14.mono d6_13.size)
    have d7_14 := d7_13.trans (b14.mono d7_13.size)
    have d8_14 := d8_13.trans (b14.mono d8_13.size)
    have d9_14 := d9_13.trans (b14.mono d9_13.size)
    have d10_14 := d10_13.trans (b14.mono d10_13.size)
    have d11_14 := d11_13.trans (b14.mono d11_13.size)
    have d12_14 := d12_13.trans (b14.mono d12_13.size)
    have d13_14 := b14
    go_wp2_with fail
    refine (r4same_t (hp3.below d13_14) hp4 HDB.out).mono ?_
    rintro e w15 ⟨rfl, b15⟩
    have d0_15 := d0_14.trans (b15.mono d0_14.size)
    have d1_15 := d1_14.trans (b15.mono d1_14.size)
    have d2_15 := d2_14.trans (b15.mono d2_14.size)
    have d3_15 := d3_14.trans (b15.mono d3_14.size)
    have d4_15 := d4_14.trans (b15.mono d4_14.size)
    have d5_15 := d5_14.trans (b15.mono d5_14.size)
    have d6_15 := d6_14.trans (b15.mono d6_14.size)
    have d7_15 := d7_14.trans (b15.mono d7_14.size)
    have d8_15 := d8_14.trans (b15.mono d8_14.size)
    have d9_15 := d9_14.trans (b15.mono d9_14.size)
    have d10_15 := d10_14.trans (b15.mono d10_14.size)
    have d11_15 := d11_14.trans (b15.mono d11_14.size)
    have d12_15 := d12_14.trans (b15.mono d12_14.size)
    have d13_15 := d13_14.trans (b15.mono d13_14.size)
    have d14_15 := b15
    go_wp2_with fail
    refine (rmul_v ((hm.below d8_15).lv hml) (((hg.below d7_15).lv hgl).mono (by decide)) (by decide)).mono ?_
    rintro e w16 ⟨vp5, rfl, hp5, b16⟩
    have d0_16 := d0_15.trans (b16.mono d0_15.size)
    have d1_16 := d1_15.trans (b16.mono d1_15.size)
    have d2_16 := d2_15.trans (b16.mono d2_15.size)
    have d3_16 := d3_15.trans (b16.mono d3_15.size)
    have d4_16 := d4_15.trans (b16.mono d4_15.size)
    have d5_16 := d5_15.trans (b16.mono d5_15.size)
    have d6_16 := d6_15.trans (b16.mono d6_15.size)
    have d7_16 := d7_15.trans (b16.mono d7_15.size)
    have d8_16 := d8_15.trans (b16.mono d8_15.size)
    have d9_16 := d9_15.trans (b16.mono d9_15.size)
    have d10_16 := d10_15.trans (b16.mono d10_15.size)
    have d11_16 := d11_15.trans (b16.mono d11_15.size)
    have d12_16 := d12_15.trans (b16.mono d12_15.size)
    have d13_16 := d13_15.trans (b16.mono d13_15.size)
    have d14_16 := d14_15.trans (b16.mono d14_15.size)
    have d15_16 := b16
    go_wp2_with fail
    refine (rmul_v (la.below d0_16) (lb.below d0_16) (by decide)).mono ?_
    rintro e w17 ⟨vp6, rfl, hp6, b17⟩
    have d0_17 := d0_16.trans (b17.mono d0_16.size)
    have d1_17 := d1_16.trans (b17.mono d1_16.size)
    have d2_17 := d2_16.trans (b17.mono d2_16.size)
    have d3_17 := d3_16.trans (b17.mono d3_16.size)
    have d4_17 := d4_16.trans (b17.mono d4_16.size)
    have d5_17 := d5_16.trans (b17.mono d5_16.size)
    have d6_17 := d6_16.trans (b17.mono d6_16.size)
    have d7_17 := d7_16.trans (b17.mono d7_16.size)
    have d8_17 := d8_16.trans (b17.mono d8_16.size)
    have d9_17 := d9_16.trans (b17.mono d9_16.size)
    have d10_17 := d10_16.trans (b17.mono d10_16.size)
    have d11_17 := d11_16.trans (b17.mono d11_16.size)
    have d12_17 := d12_16.trans (b17.mono d12_16.size)
    have d13_17 := d13_16.trans (b17.mono d13_16.size)
    have d14_17 := d14_16.trans (b17.mono d14_16.size)
    have d15_17 := d15_16.trans (b17.mono d15_16.size)
    have d16_17 := b17
    go_wp2_with fail
    refine (r4same_t (hp5.below d16_17) hp6 HLC.out).mono ?_
    rintro e w18 ⟨rfl, b18⟩
    have d0_18 := d0_17.trans (b18.mono d0_17.size)
    have d1_18 := d1_17.trans (b18.mono d1_17.size)
    have d2_18 := d2_17.trans (b18.mono d2_17.size)
    have d3_18 := d3_17.trans (b18.mono d3_17.size)
    have d4_18 := d4_17.trans (b18.mono d4_17.size)
    have d5_18 := d5_17.trans (b18.mono d5_17.size)
    have d6_18 := d6_17.trans (b18.mono d6_17.size)
    have d7_18 := d7_17.trans (b18.mono d7_17.size)
    have d8_18 := d8_17.trans (b18.mono d8_17.size)
    have d9_18 := d9_17.trans (b18.mono d9_17.size)
    have d10_18 := d10_17.trans (b18.mono d10_17.size)
    have d11_18 := d11_17.trans (b18.mono d11_17.size)
    have d12_18 := d12_17.trans (b18.mono d12_17.size)
    have d13_18 := d13_17.trans (b18.mono d13_17.size)
    have d14_18 := d14_17.trans (b18.mono d14_17.size)
    have d15_18 := d15_17.trans (b18.mono d15_17.size)
    have d16_18 := d16_17.trans (b18.mono d16_17.size)
    have d17_18 := b18
    go_wp2_with fail
    refine (wakes4_any _ (hT.below d0_18)).mono ?_
    rintro e w19 ⟨rfl, b19⟩
    have d0_19 := d0_18.trans (b19.mono d0_18.size)
    have d1_19 := d1_18.trans (b19.mono d1_18.size)
    have d2_19 := d2_18.trans (b19.mono d2_18.size)
    have d3_19 := d3_18.trans (b19.mono d3_18.size)
    have d4_19 := d4_18.trans (b19.mono d4_18.size)
    have d5_19 := d5_18.trans (b19.mono d5_18.size)
    have d6_19 := d6_18.trans (b19.mono d6_18.size)
    have d7_19 := d7_18.trans (b19.mono d7_18.size)
    have d8_19 := d8_18.trans (b19.mono d8_18.size)
    have d9_19 := d9_18.trans (b19.mono d9_18.size)
    have d10_19 := d10_18.trans (b19.mono d10_18.size)
    have d11_19 := d11_18.trans (b19.mono d11_18.size)
    have d12_19 := d12_18.trans (b19.mono d12_18.size)
    have d13_19 := d13_18.trans (b19.mono d13_18.size)
    have d14_19 := d14_18.trans (b19.mono d14_18.size)
    have d15_19 := d15_18.trans (b19.mono d15_18.size)
    have d16_19 := d16_18.trans (b19.mono d16_18.size)
    have d17_19 := d17_18.trans (b19.mono d17_18.size)
    have d18_19 := b19
    go_wp2_with fail
    go_ret
    exact ⟨rfl, d0_19⟩
end Go.Proofs.Wd
