/- The walk of straitlaw04.GcdRest. -/
import Derived.Test.YtghgemeclgpibaaDoorMG18
namespace Go.Proofs.Wd
open Go.RowKit Lb

theorem LV.nil (W : World) (m : Nat) : LV W m (.slice none 0 0) 0 := ⟨none, 0, 0, [], rfl, Rd.nil_ W, Lt_nil, Nat.zero_le _, rfl⟩
theorem cmp_le {a b : Nat} (h : a ≤ b) : cmpOf a b ≤ 0 := by
  unfold cmpOf
  split
  · omega
  · rw [if_neg (by omega)]; omega

set_option maxHeartbeats 2000000 in
theorem rest_any (A : Option Addr) (n c : Nat) (l : List Nat) (A' : Option Addr) (n' c' : Nat) (l' : List Nat) (w : World) (h : Rd w A n c l) (ht : Lt l) (h' : Rd w A' n' c' l') (ht' : Lt l') (hT : Tab w) :
    Calls Tryd.prog 5 #[.slice A n c, .slice A' n' c'] w fun e w' => e = .returned (.bool true) ∧ Below w.heap.size w w' := by
  have hle := h.le; have hcap := h.cap; have hle' := h'.le; have hcap' := h'.cap
  obtain ⟨M, hM⟩ : ∃ M, max n n' = M := ⟨_, rfl⟩
  have hmax : max (n : Int) (n' : Int) = (M : Int) := by omega
  rcases Nat.lt_or_ge 8 M with hbig | hsm
  · clear hM
    go_enter Tryd.func5, Tryd.ntmps5
    go_wp2_with fail
    refine (wakes4_any _ hT).mono ?_
    rintro e w1 ⟨rfl, b1⟩
    go_wp2_with fail
    go_ret
    exact ⟨rfl, b1⟩
  have la : LV w 8 (.slice A n c) (val l) := LV.mk h ht (by omega)
  have lb : LV w 8 (.slice A' n' c') (val l') := LV.mk h' ht' (by omega)
  clear hM h h' ht ht'
  obtain ⟨a, ha⟩ : ∃ a, val l = a := ⟨_, rfl⟩
  obtain ⟨b, hb⟩ : ∃ b, val l' = b := ⟨_, rfl⟩
  rw [ha] at la
  rw [hb] at lb
  clear ha hb
  have bda := la.bound
  have bdb := lb.bound
  have hgl := gcd_lt bda bdb
  have hml : a * b < BB ^ 16 := by
    rw [show (16 : Nat) = 8 + 8 from rfl, Nat.pow_add]
    exact Nat.mul_lt_mul_of_lt_of_le bda (Nat.le_of_lt bdb) (Nat.pow_pos BB_pos)
  have hg3 : Nat.gcd (a * b) a = a := by rw [Nat.gcd_comm]; exact Nat.gcd_mul_right_right b a
  have hg4 : a / Nat.gcd a a * a = a := by
    rw [Nat.gcd_self]
    rcases Nat.eq_zero_or_pos a with h0 | h0
    · rw [h0]
    · rw [Nat.div_self h0, Nat.one_mul]
  have hcm : cmpOf (Nat.gcd a b) (a + b) ≤ 0 := cmp_le (by
    rcases Nat.eq_zero_or_pos a with h0 | h0
    · rw [h0, Nat.gcd_zero_left]; omega
    · exact Nat.le_trans (Nat.gcd_le_left b h0) (by omega))
  have hmod : Nat.gcd b (a % b) = Nat.gcd a b := by rw [Nat.gcd_comm a b, Nat.gcd_rec b a, Nat.gcd_comm]
  have hrl : 0 < b → a % b < BB ^ 8 := fun h0 => Nat.lt_trans (Nat.mod_lt _ h0) bdb
  have hgaa := Nat.gcd_self a
  have hga0 := Nat.gcd_zero_right a
  have HG3 := hid hg3; have HG4 := hid hg4; have HMOD := hid hmod; have HAA := hid hgaa; have HA0 := hid hga0; have HCM := hid hcm
  clear hg3 hg4 hmod hgaa hga0 hcm
  rcases Nat.eq_zero_or_pos b with hb0 | hb0
  · have HB0 := hid hb0; clear hb0
    go_enter Tryd.func5, Tryd.ntmps5
    go_wp2_with fail
    refine (gcd_v la lb (by decide) hT).mono ?_
    rintro e w1 ⟨vg, rfl, hg, b1⟩
    have d0_1 := b1
    go_wp2_with fail
    refine (rdiv_zero_v (v := .slice A n c) (lb.below d0_1) (by decide) HB0.out).mono ?_
    rintro e w2 ⟨rfl, b2⟩
    have d0_2 := d0_1.trans (b2.mono d0_1.size)
    have d1_2 := b2
    go_wp2_with fail
    refine (gcd_v (la.below d0_2) (la.below d0_2) (by decide) (hT.below d0_2)).mono ?_
    rintro e w3 ⟨vg3, rfl, hg3, b3⟩
    have d0_3 := d0_2.trans (b3.mono d0_2.size)
    have d1_3 := d1_2.trans (b3.mono d1_2.size)
    have d2_3 := b3
    go_wp2_with fail
    refine (rtrim_v (la.below d0_3) (by decide)).mono ?_
    rintro e w4 ⟨vt3, rfl, ht3, b4⟩
    have d0_4 := d0_3.trans (b4.mono d0_3.size)
    have d1_4 := d1_3.trans (b4.mono d1_3.size)
    have d2_4 := d2_3.trans (b4.mono d2_3.size)
    have d3_4 := b4
    go_wp2_with fail
    refine (r4same_t (hg3.below d3_4) ht3 HAA.out).mono ?_
    rintro e w5 ⟨rfl, b5⟩
    have d0_5 := d0_4.trans (b5.mono d0_4.size)
    have d1_5 := d1_4.trans (b5.mono d1_4.size)
    have d2_5 := d2_4.trans (b5.mono d2_4.size)
    have d3_5 := d3_4.trans (b5.mono d3_4.size)
    have d4_5 := b5
    go_wp2_with fail
    refine (gcd_v (la.below d0_5) (LV.nil _ _) (by decide) (hT.below d0_5)).mono ?_
    rintro e w6 ⟨vg4, rfl, hg4, b6⟩
    have d0_6 := d0_5.trans (b6.mono d0_5.size)
    have d1_6 := d1_5.trans (b6.mono d1_5.size)
    have d2_6 := d2_5.trans (b6.mono d2_5.size)
    have d3_6 := d3_5.trans (b6.mono d3_5.size)
    have d4_6 := d4_5.trans (b6.mono d4_5.size)
    have d5_6 := b6
    go_wp2_with fail
    refine (rtrim_v (la.below d0_6) (by decide)).mono ?_
    rintro e w7 ⟨vt4, rfl, ht4, b7⟩
    have d0_7 := d0_6.trans (b7.mono d0_6.size)
    have d1_7 := d1_6.trans (b7.mono d1_6.size)
    have d2_7 := d2_6.trans (b7.mono d2_6.size)
    have d3_7 := d3_6.trans (b7.mono d3_6.size)
    have d4_7 := d4_6.trans (b7.mono d4_6.size)
    have d5_7 := d5_6.trans (b7.mono d5_6.size)
    have d6_7 := b7
    go_wp2_with fail
    refine (r4same_t (hg4.below d6_7) ht4 HA0.out).mono ?_
    rintro e w8 ⟨rfl, b8⟩
    have d0_8 := d0_7.trans (b8.mono d0_7.size)
    have d1_8 := d1_7.trans (b8.mono d1_7.size)
    have d2_8 := d2_7.trans (b8.mono d2_7.size)
    have d3_8 := d3_7.trans (b8.mono d3_7.size)
    have d4_8 := d4_7.trans (b8.mono d4_7.size)
    have d5_8 := d5_7.trans (b8.mono d5_7.size)
    have d6_8 := d6_7.trans (b8.mono d6_7.size)
    have d7_8 := b8
    go_wp2_with fail
    refine (rmul_v (la.below d0_8) (lb.below d0_8) (by decide)).mono ?_
    rintro e w9 ⟨vm, rfl, hm, b9⟩
    have d0_9 := d0_8.trans (b9.mono d0_8.size)
    have d1_9 := d1_8.trans (b9.mono d1_8.size)
    have d2_9 := d2_8.trans (b9.mono d2_8.size)
    have d3_9 := d3_8.trans (b9.mono d3_8.size)
    have d4_9 := d4_8.trans (b9.mono d4_8.size)
    have d5_9 := d5_8.trans (b9.mono d5_8.size)
    have d6_9 := d6_8.trans (b9.mono d6_8.size)
    have d7_9 := d7_8.trans (b9.mono d7_8.size)
    have d8_9 := b9
    go_wp2_with fail
    refine (gcd_v (hm.lv hml) ((la.below d0_9).mono (by decide)) (by decide) (hT.below d0_9)).mono ?_
    rintro e w10 ⟨vg5, rfl, hg5, b10⟩
    have d0_10 := d0_9.trans (b10.mono d0_9.size)
    have d1_10 := d1_9.trans (b10.mono d1_9.size)
    have d2_10 := d2_9.trans (b10.mono d2_9.size)
    have d3_10 := d3_9.trans (b10.mono d3_9.size)
    have d4_10 := d4_9.trans (b10.mono d4_9.size)
    have d5_10 := d5_9.trans (b10.mono d5_9.size)
    have d6_10 := d6_9.trans (b10.mono d6_9.size)
    have d7_10 := d7_9.trans (b10.mono d7_9.size)
    have d8_10 := d8_9.trans (b10.mono d8_9.size)
    have d9_10 := b10
    go_wp2_with fail
    refine (rtrim_v (la.below d0_10) (by decide)).mono ?_
    rintro e w11 ⟨vt5, rfl, ht5, b11⟩
    have d0_11 := d0_10.trans (b11.mono d0_10.size)
    have d1_11 := d1_10.trans (b11.mono d1_10.size)
    have d2_11 := d2_10.trans (b11.mono d2_10.size)
    have d3_11 := d3_10.trans (b11.mono d3_10.size)
    have d4_11 := d4_10.trans (b11.mono d4_10.size)
    have d5_11 := d5_10.trans (b11.mono d5_10.size)
    have d6_11 := d6_10.trans (b11.mono d6_10.size)
    have d7_11 := d7_10.trans (b11.mono d7_10.size)
    have d8_11 := d8_10.trans (b11.mono d8_10.size)
    have d9_11 := d9_10.trans (b11.mono d9_10.size)
    have d10_11 := b11
    go_wp2_with fail
    refine (r4same_t (hg5.below d10_11) ht5 HG3.out).mono ?_
    rintro e w12 ⟨rfl, b12⟩
    have d0_12 := d0_11.trans (b12.mono d0_11.size)
    have d1_12 := d1_11.trans (b12.mono d1_11.size)
    have d2_12 := d2_11.trans (b12.mono d2_11.size)
    have d3_12 := d3_11.trans (b12.mono d3_11.size)
    have d4_12 := d4_11.trans (b12.mono d4_11.size)
    have d5_12 := d5_11.trans (b12.mono d5_11.size)
    have d6_12 := d6_11.trans (b12.mono d6_11.size)
    have d7_12 := d7_11.trans (b12.mono d7_11.size)
    have d8_12 := d8_11.trans (b12.mono d8_11.size)
    have d9_12 := d9_11.trans (b12.mono d9_11.size)
    have d10_12 := d10_11.trans (b12.mono d10_11.size)
    have d11_12 := b12
    have ad := radd2_v (la.below d0_12) (lb.below d0_12) (by decide) 23
    have bS : Below w12.heap.size w12 (w12.alloc (.cells #[.slice A n c, .slice A' n' c'] 23)) := (Below.refl _ w12).alloc (Nat.le_refl _) _
    go_wp2_with fail
    have d0_13 := d0_12.trans (bS.mono d0_12.size)
    have d1_13 := d1_12.trans (bS.mono d1_12.size)
    have d2_13 := d2_12.trans (bS.mono d2_12.size)
    have d3_13 := d3_12.trans (bS.mono d3_12.size)
    have d4_13 := d4_12.trans (bS.mono d4_12.size)
    have d5_13 := d5_12.trans (bS.mono d5_12.size)
    have d6_13 := d6_12.trans (bS.mono d6_12.size)
    have d7_13 := d7_12.trans (bS.mono d7_12.size)
    have d8_13 := d8_12.trans (bS.mono d8_12.size)
    have d9_13 := d9_12.trans (bS.mono d9_12.size)
    have d10_13 := d10_12.trans (bS.mono d10_12.size)
    have d11_13 := d11_12.trans (bS.mono d11_12.size)
    have d12_13 := bS
    refine (ad).mono ?_
    rintro e w14 ⟨vs, rfl, hs, b14⟩
    have d0_14 := d0_13.trans (b14.mono d0_13.size)
    have d1_14 := d1_13.trans (b14.mono d1_13.size)
    have d2_14 := d2_13.trans (b14.mono d2_13.size)
    have d3_14 := d3_13.trans (b14.mono d3_13.size)
    have d4_14 := d4_13.trans (b14.mono d4_13.size)
    have d5_14 := d5_13.trans (b14.mono d5_13.size)
    have d6_14 := d6_13.trans (b14.mono d6_13.size)
    have d7_14 := d7_13.trans (b14.mono d7_13.size)
    have d8_14 := d8_13.trans (b14.mono d8_13.size)
    have d9_14 := d9_13.trans (b14.mono d9_13.size)
    have d10_14 := d10_13.trans (b14.mono d10_13.size)
    have d11_14 := d11_13.trans (b14.mono d11_13.size)
    have d12_14 := d12_13.trans (b14.mono d12_13.size)
    have d13_14 := b14
    have bds : a + b < BB ^ 9 := by rw [Nat.pow_succ]; unfold BB at *; omega
    obtain ⟨z, hz⟩ : ∃ z, cmpOf (Nat.gcd a b) (a + b) = z := ⟨_, rfl⟩
    have hz0 : z ≤ 0 := by rw [← hz]; exact HCM.out
    go_wp2_with fail
    have hcv := rcmp_v (((hg.below d1_14).lv hgl).mono (m' := 9) (by decide)) (hs.lv bds)
    rw [hz] at hcv
    clear hz bds
    refine hcv.mono ?_
    rintro e wz ⟨rfl, hwz⟩
    rw [← hwz]
    clear hwz wz hcv
    go_wp2_with fail
    refine (lcm_v (la.below d0_14) (la.below d0_14) (by decide) (hT.below d0_14)).mono ?_
    rintro e w15 ⟨vlc, rfl, hlc, b15⟩
    have d0_15 := d0_14.trans (b15.mono d0_14.size)
    have d1_15 := d1_14.trans (b15.mono d1_14.size)
    have d2_15 := d2_14.trans (b15.mono d2_14.size)
    have d3_15 := d3_14.trans (b15.mono d3_14.size)
    have d4_15 := d4_14.trans (b15.mono d4_14.size)
    have d5_15 := d5_14.trans (b15.mono d5_14.size)
    have d6_15 := d6_14.trans (b15.mono d6_14.size)
    have d7_15 := d7_14.trans (b15.mono d7_14.size)
    have d8_15 := d8_14.trans (b15.mono d8_14.size)
    have d9_15 := d9_14.trans (b15.mono d9_14.size)
    have d10_15 := d10_14.trans (b15.mono d10_14.size)
    have d11_15 := d11_14.trans (b15.mono d11_14.size)
    have d12_15 := d12_14.trans (b15.mono d12_14.size)
    have d13_15 := d13_14.trans (b15.mono d13_14.size)
    have d14_15 := b15
    go_wp2_with fail
    refine (rtrim_v (la.below d0_15) (by decide)).mono ?_
    rintro e w16 ⟨vt6, rfl, ht6, b16⟩
    have d0_16 := d0_15.trans (b16.mono d0_15.size)
    have d1_16 := d1_15.trans (b16.mono d1_15.size)
    have d2_16 := d2_15.trans (b16.mono d2_15.size)
    have d3_16 := d3_15.trans (b16.mono d3_15.size)
    have d4_16 := d4_15.trans (b16.mono d4_15.size)
    have d5_16 := d5_15.trans (b16.mono d5_15.size)
    have d6_16 := d6_15.trans (b16.mono d6_15.size)
    have d7_16 := d7_15.trans (b16.mono d7_15.size)
    have d8_16 := d8_15.trans (b16.mono d8_15.size)
    have d9_16 := d9_15.trans (b16.mono d9_15.size)
    have d10_16 := d10_15.trans (b16.mono d10_15.size)
    have d11_16 := d11_15.trans (b16.mono d11_15.size)
    have d12_16 := d12_15.trans (b16.mono d12_15.size)
    have d13_16 := d13_15.trans (b16.mono d13_15.size)
    have d14_16 := d14_15.trans (b16.mono d14_15.size)
    have d15_16 := b16
    go_wp2_with fail
    refine (r4same_t (hlc.below d15_16) ht6 HG4.out).mono ?_
    rintro e w17 ⟨rfl, b17⟩
    have d0_17 := d0_16.trans (b17.mono d0_16.size)
    have d1_17 := d1_16.trans (b17.mono d1_16.size)
    have d2_17 := d2_16.trans (b17.mono d2_16.size)
    have d3_17 := d3_16.trans (b17.mono d3_16.size)
    have d4_17 := d4_16.trans (b17.mono d4_16.size)
    have d5_17 := d5_16.trans (b17.mono d5_16.size)
    have d6_17 := d6_16.trans (b17.mono d6_16.size)
    have d7_17 := d7_16.trans (b17.mono d7_16.size)
    have d8_17 := d8_16.trans (b17.mono d8_16.size)
    have d9_17 := d9_16.trans (b17.mono d9_16.size)
    have d10_17 := d10_16.trans (b17.mono d10_16.size)
    have d11_17 := d11_16.trans (b17.mono d11_16.size)
    have d12_17 := d12_16.trans (b17.mono d12_16.size)
    have d13_17 := d13_16.trans (b17.mono d13_16.size)
    have d14_17 := d14_16.trans (b17.mono d14_16.size)
    have d15_17 := d15_16.trans (b17.mono d15_16.size)
    have d16_17 := b17
    go_wp2_with fail
    refine (wakes4_any _ (hT.below d0_17)).mono ?_
    rintro e w18 ⟨rfl, b18⟩
    have d0_18 := d0_17.trans (b18.mono d0_17.size)
    have d1_18 := d1_17.trans (b18.mono d1_17.size)
    have d2_18 := d2_17.trans (b18.mono d2_17.size)
    have d3_18 := d3_17.trans (b18.mono d3_17.size)
    have d4_18 := d4_17.trans (b18.mono d4_17.size)
    have d5_18 := d5_17.trans (b18.mono d5_17.size)
    have d6_18 := d6_17.trans (b18.mono d6_17.size)
    have d7_18 := d7_17.trans (b18.mono d7_17.size)
    have d8_18 := d8_17.trans (b18.mono d8_17.size)
    have d9_18 := d9_17.trans (b18.mono d9_17.size)
    have d10_18 := d10_17.trans (b18.mono d10_17.size)
    have d11_18 := d11_17.trans (b18.mono d11_17.size)
    have d12_18 := d12_17.trans (b18.mono d12_17.size)
    have d13_18 := d13_17.trans (b18.mono d13_17.size)
    have d14_18 := d14_17.trans (b18.mono d14_17.size)
    have d15_18 := d15_17.trans (b18.mono d15_17.size)
    have d16_18 := d16_17.trans (b18.mono d16_17.size)
    have d17_18 := b18
    go_wp2_with fail
    go_ret
    exact ⟨rfl, d0_18⟩
  · skip
    go_enter Tryd.func5, Tryd.ntmps5
    go_wp2_with fail
    refine (gcd_v la lb (by decide) hT).mono ?_
    rintro e w1 ⟨vg, rfl, hg, b1⟩
    have d0_1 := b1
    go_wp2_with fail
    refine (rdiv_v (la.below d0_1) (lb.below d0_1) (by decide) hb0).mono ?_
    rintro e w2 ⟨vq, vr, rfl, hq, hr, b2⟩
    have d0_2 := d0_1.trans (b2.mono d0_1.size)
    have d1_2 := b2
    go_wp2_with fail
    refine (gcd_v (lb.below d0_2) (hr.lv (hrl hb0)) (by decide) (hT.below d0_2)).mono ?_
    rintro e w3 ⟨vg2, rfl, hg2, b3⟩
    have d0_3 := d0_2.trans (b3.mono d0_2.size)
    have d1_3 := d1_2.trans (b3.mono d1_2.size)
    have d2_3 := b3
    go_wp2_with fail
    refine (r4same_t hg2 (hg.below d1_3) HMOD.out).mono ?_
    rintro e w4 ⟨rfl, b4⟩
    have d0_4 := d0_3.trans (b4.mono d0_3.size)
    have d1_4 := d1_3.trans (b4.mono d1_3.size)
    have d2_4 := d2_3.trans (b4.mono d2_3.size)
    have d3_4 := b4
    go_wp2_with fail
    refine (gcd_v (la.below d0_4) (la.below d0_4) (by decide) (hT.below d0_4)).mono ?_
    rintro e w5 ⟨vg3, rfl, hg3, b5⟩
    have d0_5 := d0_4.trans (b5.mono d0_4.size)
    have d1_5 := d1_4.trans (b5.mono d1_4.size)
    have d2_5 := d2_4.trans (b5.mono d2_4.size)
    have d3_5 := d3_4.trans (b5.mono d3_4.size)
    have d4_5 := b5
    go_wp2_with fail
    refine (rtrim_v (la.below d0_5) (by decide)).mono ?_
    rintro e w6 ⟨vt3, rfl, ht3, b6⟩
    have d0_6 := d0_5.trans (b6.mono d0_5.size)
    have d1_6 := d1_5.trans (b6.mono d1_5.size)
    have d2_6 := d2_5.trans (b6.mono d2_5.size)
    have d3_6 := d3_5.trans (b6.mono d3_5.size)
    have d4_6 := d4_5.trans (b6.mono d4_5.size)
    have d5_6 := b6
    go_wp2_with fail
    refine (r4same_t (hg3.below d5_6) ht3 HAA.out).mono ?_
    rintro e w7 ⟨rfl, b7⟩
    have d0_7 := d0_6.trans (b7.mono d0_6.size)
    have d1_7 := d1_6.trans (b7.mono d1_6.size)
    have d2_7 := d2_6.trans (b7.mono d2_6.size)
    have d3_7 := d3_6.trans (b7.mono d3_6.size)
    have d4_7 := d4_6.trans (b7.mono d4_6.size)
    have d5_7 := d5_6.trans (b7.mono d5_6.size)
    have d6_7 := b7
    go_wp2_with fail
    refine (gcd_v (la.below d0_7) (LV.nil _ _) (by decide) (hT.below d0_7)).mono ?_
    rintro e w8 ⟨vg4, rfl, hg4, b8⟩
    have d0_8 := d0_7.trans (b8.mono d0_7.size)
    have d1_8 := d1_7.trans (b8.mono d1_7.size)
    have d2_8 := d2_7.trans (b8.mono d2_7.size)
    have d3_8 := d3_7.trans (b8.mono d3_7.size)
    have d4_8 := d4_7.trans (b8.mono d4_7.size)
    have d5_8 := d5_7.trans (b8.mono d5_7.size)
    have d6_8 := d6_7.trans (b8.mono d6_7.size)
    have d7_8 := b8
    go_wp2_with fail
    refine (rtrim_v (la.below d0_8) (by decide)).mono ?_
    rintro e w9 ⟨vt4, rfl, ht4, b9⟩
    have d0_9 := d0_8.trans (b9.mono d0_8.size)
    have d1_9 := d1_8.trans (b9.mono d1_8.size)
    have d2_9 := d2_8.trans (b9.mono d2_8.size)
    have d3_9 := d3_8.trans (b9.mono d3_8.size)
    have d4_9 := d4_8.trans (b9.mono d4_8.size)
    have d5_9 := d5_8.trans (b9.mono d5_8.size)
    have d6_9 := d6_8.trans (b9.mono d6_8.size)
    have d7_9 := d7_8.trans (b9.mono d7_8.size)
    have d8_9 := b9
    go_wp2_with fail
    refine (r4same_t (hg4.below d8_9) ht4 HA0.out).mono ?_
    rintro e w10 ⟨rfl, b10⟩
    have d0_10 := d0_9.trans (b10.mono d0_9.size)
    have d1_10 := d1_9.trans (b10.mono d1_9.size)
    have d2_10 := d2_9.trans (b10.mono d2_9.size)
    have d3_10 := d3_9.trans (b10.mono d3_9.size)
    have d4_10 := d4_9.trans (b10.mono d4_9.size)
    have d5_10 := d5_9.trans (b10.mono d5_9.size)
    have d6_10 := d6_9.trans (b10.mono d6_9.size)
    have d7_10 := d7_9.trans (b10.mono d7_9.size)
    have d8_10 := d8_9.trans (b10.mono d8_9.size)
    have d9_10 := b10
    go_wp2_with fail
    refine (rmul_v (la.below d0_10) (lb.below d0_10) (by decide)).mono ?_
    rintro e w11 ⟨vm, rfl, hm, b11⟩
    have d0_11 := d0_10.trans (b11.mono d0_10.size)
    have d1_11 := d1_10.trans (b11.mono d1_10.size)
    have d2_11 := d2_10.trans (b11.mono d2_10.size)
    have d3_11 := d3_10.trans (b11.mono d3_10.size)
    have d4_11 := d4_10.trans (b11.mono d4_10.size)
    have d5_11 := d5_10.trans (b11.mono d5_10.size)
    have d6_11 := d6_10.trans (b11.mono d6_10.size)
    have d7_11 := d7_10.trans (b11.mono d7_10.size)
    have d8_11 := d8_10.trans (b11.mono d8_10.size)
    have d9_11 := d9_10.trans (b11.mono d9_10.size)
    have d10_11 := b11
    go_wp2_with fail
    refine (gcd_v (hm.lv hml) ((la.below d0_11).mono (by decide)) (by decide) (hT.below d0_11)).mono ?_
    rintro e w12 ⟨vg5, rfl, hg5, b12⟩
    have d0_12 := d0_11.trans (b12.mono d0_11.size)
    have d1_12 := d1_11.trans (b12.mono d1_11.size)
    have d2_12 := d2_11.trans (b12.mono d2_11.size)
    have d3_12 := d3_11.trans (b12.mono d3_11.size)
    have d4_12 := d4_11.trans (b12.mono d4_11.size)
    have d5_12 := d5_11.trans (b12.mono d5_11.size)
    have d6_12 := d6_11.trans (b12.mono d6_11.size)
    have d7_12 := d7_11.trans (b12.mono d7_11.size)
    have d8_12 := d8_11.trans (b12.mono d8_11.size)
    have d9_12 := d9_11.trans (b12.mono d9_11.size)
    have d10_12 := d10_11.trans (b12.mono d10_11.size)
    have d11_12 := b12
    go_wp2_with fail
    refine (rtrim_v (la.below d0_12) (by decide)).mono ?_
    rintro e w13 ⟨vt5, rfl, ht5, b13⟩
    have d0_13 := d0_12.trans (b13.mono d0_12.size)
    have d1_13 := d1_12.trans (b13.mono d1_12.size)
    have d2_13 := d2_12.trans (b13.mono d2_12.size)
    have d3_13 := d3_12.trans (b13.mono d3_12.size)
    have d4_13 := d4_12.trans (b13.mono d4_12.size)
    have d5_13 := d5_12.trans (b13.mono d5_12.size)
    have d6_13 := d6_12.trans (b13.mono d6_12.size)
    have d7_13 := d7_12.trans (b13.mono d7_12.size)
    have d8_13 := d8_12.trans (b13.mono d8_12.size)
    have d9_13 := d9_12.trans (b13.mono d9_12.size)
    have d10_13 := d10_12.trans (b13.mono d10_12.size)
    have d11_13 := d11_12.trans (b13.mono d11_12.size)
    have d12_13 := b13
    go_wp2_with fail
    refine (r4same_t (hg5.below d12_13) ht5 HG3.out).mono ?_
    rintro e w14 ⟨rfl, b14⟩
    have d0_14 := d0_13.trans (b14.mono d0_13.size)
    have d1_14 := d1_13.trans (b14.mono d1_13.size)
    have d2_14 := d2_13.trans (b14.mono d2_13.size)
    have d3_14 := d3_13.trans (b14.mono d3_13.size)
    have d4_14 := d4_13.trans (b14.mono d4_13.size)
    have d5_14 := d5_13.trans (b14.mono d5_13.size)
    have d6_14 := d6_13.trans (b14.mono d6_13.size)
    have d7_14 := d7_13.trans (b14.mono d7_13.size)
    have d8_14 := d8_13.trans (b14.mono d8_13.size)
    have d9_14 := d9_13.trans (b14.mono d9_13.size)
    have d10_14 := d10_13.trans (b14.mono d10_13.size)
    have d11_14 := d11_13.trans (b14.mono d11_13.size)
    have d12_14 := d12_13.trans (b14.mono d12_13.size)
    have d13_14 := b14
    have ad := radd2_v (la.below d0_14) (lb.below d0_14) (by decide) 23
    have bS : Below w14.heap.size w14 (w14.alloc (.cells #[.slice A n c, .slice A' n' c'] 23)) := (Below.refl _ w14).alloc (Nat.le_refl _) _
    go_wp2_with fail
    have d0_15 := d0_14.trans (bS.mono d0_14.size)
    have d1_15 := d1_14.trans (bS.mono d1_14.size)
    have d2_15 := d2_14.trans (bS.mono d2_14.size)
    have d3_15 := d3_14.trans (bS.mono d3_14.size)
    have d4_15 := d4_14.trans (bS.mono d4_14.size)
    have d5_15 := d5_14.trans (bS.mono d5_14.size)
    have d6_15 := d6_14.trans (bS.mono d6_14.size)
    have d7_15 := d7_14.trans (bS.mono d7_14.size)
    have d8_15 := d8_14.trans (bS.mono d8_14.size)
    have d9_15 := d9_14.trans (bS.mono d9_14.size)
    have d10_15 := d10_14.trans (bS.mono d10_14.size)
    have d11_15 := d11_14.trans (bS.mono d11_14.size)
    have d12_15 := d12_14.trans (bS.mono d12_14.size)
    have d13_15 := d13_14.trans (bS.mono d13_14.size)
    have d14_15 := bS
    refine (ad).mono ?_
    rintro e w16 ⟨vs, rfl, hs, b16⟩
    have d0_16 := d0_15.trans (b16.mono d0_15.size)
    have d1_16 := d1_15.trans (b16.mono d1_15.size)
    have d2_16 := d2_15.trans (b16.mono d2_15.size)
    have d3_16 := d3_15.trans (b16.mono d3_15.size)
    have d4_16 := d4_15.trans (b16.mono d4_15.size)
    have d5_16 := d5_15.trans (b16.mono d5_15.size)
    have d6_16 := d6_15.trans (b16.mono d6_15.size)
    have d7_16 := d7_15.trans (b16.mono d7_15.size)
    have d8_16 := d8_15.trans (b16.mono d8_15.size)
    have d9_16 := d9_15.trans (b16.mono d9_15.size)
    have d10_16 := d10_15.trans (b16.mono d10_15.size)
    have d11_16 := d11_15.trans (b16.mono d11_15.size)
    have d12_16 := d12_15.trans (b16.mono d12_15.size)
    have d13_16 := d13_15.trans (b16.mono d13_15.size)
    have d14_16 := d14_15.trans (b16.mono d14_15.size)
    have d15_16 := b16
    have bds : a + b < BB ^ 9 := by rw [Nat.pow_succ]; unfold BB at *; omega
    obtain ⟨z, hz⟩ : ∃ z, cmpOf (Nat.gcd a b) (a + b) = z := ⟨_, rfl⟩
    have hz0 : z ≤ 0 := by rw [← hz]; exact HCM.out
    go_wp2_with fail
    have hcv := rcmp_v (((hg.below d1_16).lv hgl).mono (m' := 9) (by decide)) (hs.lv bds)
    rw [hz] at hcv
    clear hz bds
    refine hcv.mono ?_
    rintro e wz ⟨rfl, hwz⟩
    rw [← hwz]
    clear hwz wz hcv
    go_wp2_with fail
    refine (lcm_v (la.below d0_16) (la.below d0_16) (by decide) (hT.below d0_16)).mono ?_
    rintro e w17 ⟨vlc, rfl, hlc, b17⟩
    have d0_17 := d0_16.trans (b17.mono d0_16.size)
    have d1_17 := d1_16.trans (b17.mono d1_16.size)
    have d2_17 := d2_16.trans (b17.mono d2_16.size)
    have d3_17 := d3_16.trans (b17.mono d3_16.size)
    have d4_17 := d4_16.trans (b17.mono d4_16.size)
    have d5_17 := d5_16.trans (b17.mono d5_16.size)
    have d6_17 := d6_16.trans (b17.mono d6_16.size)
    have d7_17 := d7_16.trans (b17.mono d7_16.size)
    have d8_17 := d8_16.trans (b17.mono d8_16.size)
    have d9_17 := d9_16.trans (b17.mono d9_16.size)
    have d10_17 := d10_16.trans (b17.mono d10_16.size)
    have d11_17 := d11_16.trans (b17.mono d11_16.size)
    have d12_17 := d12_16.trans (b17.mono d12_16.size)
    have d13_17 := d13_16.trans (b17.mono d13_16.size)
    have d14_17 := d14_16.trans (b17.mono d14_16.size)
    have d15_17 := d15_16.trans (b17.mono d15_16.size)
    have d16_17 := b17
    go_wp2_with fail
    refine (rtrim_v (la.below d0_17) (by decide)).mono ?_
    rintro e w18 ⟨vt6, rfl, ht6, b18⟩
    have d0_18 := d0_17.trans (b18.mono d0_17.size)
    have d1_18 := d1_17.trans (b18.mono d1_17.size)
    have d2_18 := d2_17.trans (b18.mono d2_17.size)
    have d3_18 := d3_17.trans (b18.mono d3_17.size)
    have d4_18 := d4_17.trans (b18.mono d4_17.size)
    have d5_18 := d5_17.trans (b18.mono d5_17.size)
    have d6_18 := d6_17.trans (b18.mono d6_17.size)
    have d7_18 := d7_17.trans (b18.mono d7_17.size)
    have d8_18 := d8_17.trans (b18.mono d8_17.size)
    have d9_18 := d9_17.trans (b18.mono d9_17.size)
    have d10_18 := d10_17.trans (b18.mono d10_17.size)
    have d11_18 := d11_17.trans (b18.mono d11_17.size)
    have d12_18 := d12_17.trans (b18.mono d12_17.size)
    have d13_18 := d13_17.trans (b18.mono d13_17.size)
    have d14_18 := d14_17.trans (b18.mono d14_17.size)
    have d15_18 := d15_17.trans (b18.mono d15_17.size)
    have d16_18 := d16_17.trans (b18.mono d16_17.size)
    have d17_18 := b18
    go_wp2_with fail
    refine (r4same_t (hlc.below d17_18) ht6 HG4.out).mono ?_
    rintro e w19 ⟨rfl, b19⟩
    have d0_19 := d0_18.trans (b19.mono d0_18.size)
    have d1_19 := d1_18.trans (b19.mono d1_18.size)
    have d2_19 := d2_18.trans (b19.mono d2_18.size)
    have d3_19 := d3_18.trans (b19.mono d3_18.size)
    have d4_19 := d4_18.trans (b19.mono d4_18.size)
    have d5_19 := d5_18.trans (b19.mono d5_18.size)
    have d6_19 := d6_18.trans (b19.mono d6_18.size)
    have d7_19 := d7_18.trans (b19.mono d7_18.size)
    have d8_19 := d8_18.trans (b19.mono d8_18.size)
    have d9_19 := d9_18.trans (b19.mono d9_18.size)
    have d10_19 := d10_18.trans (b19.mono d10_18.size)
    have d11_19 := d11_18.trans (b19.mono d11_18.size)
    have d12_19 := d12_18.trans (b19.mono d12_18.size)
    have d13_19 := d13_18.trans (b19.mono d13_18.size)
    have d14_19 := d14_18.trans (b19.mono d14_18.size)
    have d15_19 := d15_18.trans (b19.mono d15_18.size)
    have d16_19 := d16_18.trans (b19.mono d16_18.size)
    have d17_19 := d17_18.trans (b19.mono d17_18.size)
    have d18_19 := b19
    go_wp2_with fail
    refine (wakes4_any _ (hT.below d0_19)).mono ?_
    rintro e w20 ⟨rfl, b20⟩
    have d0_20 := d0_19.trans (b20.mono d0_19.size)
    have d1_20 := d1_19.trans (b20.mono d1_19.size)
    have d2_20 := d2_19.trans (b20.mono d2_19.size)
    have d3_20 := d3_19.trans (b20.mono d3_19.size)
    have d4_20 := d4_19.trans (b20.mono d4_19.size)
    have d5_20 := d5_19.trans (b20.mono d5_19.size)
    have d6_20 := d6_19.trans (b20.mono d6_19.size)
    have d7_20 := d7_19.trans (b20.mono d7_19.size)
    have d8_20 := d8_19.trans (b20.mono d8_19.size)
    have d9_20 := d9_19.trans (b20.mono d9_19.size)
    have d10_20 := d10_19.trans (b20.mono d10_19.size)
    have d11_20 := d11_19.trans (b20.mono d11_19.size)
    have d12_20 := d12_19.trans (b20.mono d12_19.size)
    have d13_20 := d13_19.trans (b20.mono d13_19.size)
    have d14_20 := d14_19.trans (b20.mono d14_19.size)
    have d15_20 := d15_19.trans (b20.mono d15_19.size)
    have d16_20 := d16_19.trans (b20.mono d16_19.size)
    have d17_20 := d17_19.trans (b20.mono d17_19.size)
    have d18_20 := d18_19.trans (b20.mono d18_19.size)
    have d19_20 := b20
    go_wp2_with fail
    go_ret
    exact ⟨rfl, d0_20⟩
end Go.Proofs.Wd
