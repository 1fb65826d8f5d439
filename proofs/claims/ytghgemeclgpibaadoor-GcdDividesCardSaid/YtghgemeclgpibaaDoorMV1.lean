/- The walk of straitlaw04.GcdDivides. -/
import Derived.Test.YtghgemeclgpibaaDoorMG18
namespace Go.Proofs.Wd
open Go.RowKit Lb

set_option maxHeartbeats 4000000 in
theorem divides_any (A : Option Addr) (n c : Nat) (l : List Nat) (A' : Option Addr) (n' c' : Nat) (l' : List Nat) (A'' : Option Addr) (n'' c'' : Nat) (l'' : List Nat) (w : World) (h : Rd w A n c l) (ht : Lt l) (h' : Rd w A' n' c' l') (ht' : Lt l') (h'' : Rd w A'' n'' c'' l'') (ht'' : Lt l'') (hT : Tab w) :
    Calls Tryd.prog 7 #[.slice A n c, .slice A' n' c', .slice A'' n'' c''] w fun e w' => e = .returned (.bool true) ∧ Below w.heap.size w w' := by
  have hle := h.le; have hcap := h.cap; have hle' := h'.le; have hcap' := h'.cap; have hle'' := h''.le; have hcap'' := h''.cap
  obtain ⟨M1, hM1⟩ : ∃ M, max n n' = M := ⟨_, rfl⟩
  obtain ⟨M, hM⟩ : ∃ M, max M1 n'' = M := ⟨_, rfl⟩
  have hmax1 : (if n < n' then (n' : Int) else (n : Int)) = (M1 : Int) := by split <;> omega
  have hmax : (if (M1 : Int) < (n'' : Int) then (n'' : Int) else (M1 : Int)) = (M : Int) := by split <;> omega
  have hmax' : (if M1 < n'' then (n'' : Int) else (M1 : Int)) = (M : Int) := by split <;> omega
  rcases Nat.lt_or_ge 6 M with hbig | hsm
  · clear hM hM1
    go_enter Tryd.func7, Tryd.ntmps7
    go_wp2_with fail
    refine (wakes4_any _ hT).mono ?_
    rintro e w1 ⟨rfl, b1⟩
    go_wp2_with fail
    go_ret
    exact ⟨rfl, b1⟩
  have la : LV w 6 (.slice A n c) (val l) := LV.mk h ht (by omega)
  have lb : LV w 6 (.slice A' n' c') (val l') := LV.mk h' ht' (by omega)
  have lc : LV w 6 (.slice A'' n'' c'') (val l'') := LV.mk h'' ht'' (by omega)
  clear hM hM1 h h' ht ht' h'' ht''
  obtain ⟨a, ha⟩ : ∃ a, val l = a := ⟨_, rfl⟩
  obtain ⟨b, hb⟩ : ∃ b, val l' = b := ⟨_, rfl⟩
  obtain ⟨k, hk⟩ : ∃ k, val l'' = k := ⟨_, rfl⟩
  rw [ha] at la
  rw [hb] at lb
  rw [hk] at lc
  clear ha hb hk
  have bda := la.bound
  have bdb := lb.bound
  have bdc := lc.bound
  have hgl := gcd_lt bda bdb
  have m12 : ∀ {x y : Nat}, x < BB ^ 6 → y < BB ^ 6 → x * y < BB ^ 12 := fun {x y} hx hy => by
    rw [show (12 : Nat) = 6 + 6 from rfl, Nat.pow_add]
    exact Nat.mul_lt_mul_of_lt_of_le hx (Nat.le_of_lt hy) (Nat.pow_pos BB_pos)
  have bac := m12 bda bdc
  have bbc := m12 bdb bdc
  have hba7 : b + a < BB ^ 7 := by rw [Nat.pow_succ]; unfold BB at *; omega
  have D1 := hid (Nat.gcd_mul_right a k b)
  have D2 := hid (fun (h : Nat.gcd a k = 1) => (Nat.Coprime.gcd_mul_right_cancel_right b (Nat.coprime_comm.1 h) : Nat.gcd a (b * k) = Nat.gcd a b))
  have D3 := hid (show Nat.gcd a (b + a) = Nat.gcd a b by simp)
  have D4 := hid (show [a, b].foldl Nat.gcd 0 = Nat.gcd a b by simp)
  have D5 := hid (show [a, b, k].foldl Nat.gcd 0 = Nat.gcd (Nat.gcd a b) k by simp)
  have D6 := hid (Nat.gcd_comm a b)
  have D7 := hid (Nat.mod_eq_zero_of_dvd (Nat.gcd_dvd_left a b))
  have D8 := hid (Nat.mod_eq_zero_of_dvd (Nat.gcd_dvd_right a b))
  have hz : Hid (∀ x y : Nat, Nat.gcd x y = 0 → x = 0 ∧ y = 0) := hid fun x y e => ⟨Nat.eq_zero_of_gcd_eq_zero_left e, Nat.eq_zero_of_gcd_eq_zero_right e⟩
  have hgab : a = 0 → b = 0 → Nat.gcd a b = 0 := fun h1 h2 => by rw [h1, h2]; rfl
  have HGAB := hid hgab
  clear hgab m12
  rcases (by omega : (a = 0 ∧ b = 0) ∨ 0 < a ∨ (a = 0 ∧ 0 < b)) with ⟨ha0, hb0⟩ | ha0 | ⟨ha0, hb0⟩
  · have HA := hid ha0; have HBZ := hid hb0; clear ha0 hb0
    go_enter Tryd.func7, Tryd.ntmps7
    go_wp2_with fail
    refine (gcd_v la lb (by decide) hT).mono ?_
    rintro e w1 ⟨vg, rfl, hg, b1⟩
    have d0_1 := b1
    obtain ⟨Ag, ng, cg, rfl, zg, pg, ig, jg, hg⟩ := hg.open
    have rg := zg (HGAB.out HA.out HBZ.out); subst rg; clear zg pg
    go_wp2_with fail
    refine (rtrim_v (la.below d0_1) (by decide)).mono ?_
    rintro e w2 ⟨vta, rfl, hta, b2⟩
    have d0_2 := d0_1.trans (b2.mono d0_1.size)
    have d1_2 := b2
    obtain ⟨Ata, nta, cta, rfl, zta, pta, ita, jta, hta⟩ := hta.open
    have qta := zta HA.out; subst qta; clear zta pta
    go_wp2_with fail
    refine (rtrim_v (lb.below d0_2) (by decide)).mono ?_
    rintro e w3 ⟨vtb, rfl, htb, b3⟩
    have d0_3 := d0_2.trans (b3.mono d0_2.size)
    have d1_3 := d1_2.trans (b3.mono d1_2.size)
    have d2_3 := b3
    obtain ⟨Atb, ntb, ctb, rfl, ztb, ptb, itb, jtb, htb⟩ := htb.open
    have qtb := ztb HBZ.out; subst qtb; clear ztb ptb
    go_wp2_with fail
    refine (wakes4_any _ (hT.below d0_3)).mono ?_
    rintro e w4 ⟨rfl, b4⟩
    have d0_4 := d0_3.trans (b4.mono d0_3.size)
    have d1_4 := d1_3.trans (b4.mono d1_3.size)
    have d2_4 := d2_3.trans (b4.mono d2_3.size)
    have d3_4 := b4
    go_wp2_with fail
    go_ret
    exact ⟨rfl, d0_4⟩
  · have hgp : 0 < Nat.gcd a b := Nat.pos_of_ne_zero (fun e => by have := hz.out a b e; omega)
    go_enter Tryd.func7, Tryd.ntmps7
    go_wp2_with fail
    refine (gcd_v la lb (by decide) hT).mono ?_
    rintro e w1 ⟨vg, rfl, hg, b1⟩
    have d0_1 := b1
    go_wp2_with fail
    refine (rtrim_v (la.below d0_1) (by decide)).mono ?_
    rintro e w2 ⟨vta, rfl, hta, b2⟩
    have d0_2 := d0_1.trans (b2.mono d0_1.size)
    have d1_2 := b2
    obtain ⟨Ata, nta, cta, rfl, zta, pta, ita, jta, hta⟩ := hta.open
    have qta := pta (by omega); clear zta pta
    go_wp2_with fail
    refine (rdiv_v (la.below d0_2) ((hg.below d1_2).lv hgl) (by decide) hgp).mono ?_
    rintro e w3 ⟨vq, vr, rfl, hq, hr, b3⟩
    have d0_3 := d0_2.trans (b3.mono d0_2.size)
    have d1_3 := d1_2.trans (b3.mono d1_2.size)
    have d2_3 := b3
    obtain ⟨Ar, nr, cr, rfl, zr, pr, ir, jr, hr⟩ := hr.open
    have rr := zr (D7.out); subst rr; clear zr pr
    go_wp2_with fail
    refine (rdiv_v (lb.below d0_3) ((hg.below d1_3).lv hgl) (by decide) hgp).mono ?_
    rintro e w4 ⟨vq2, vs, rfl, hq2, hs, b4⟩
    have d0_4 := d0_3.trans (b4.mono d0_3.size)
    have d1_4 := d1_3.trans (b4.mono d1_3.size)
    have d2_4 := d2_3.trans (b4.mono d2_3.size)
    have d3_4 := b4
    obtain ⟨As, ns, cs, rfl, zs, ps, is, js, hs⟩ := hs.open
    have rs := zs (D8.out); subst rs; clear zs ps
    go_wp2_with fail
    refine (gcd_v (lb.below d0_4) (la.below d0_4) (by decide) (hT.below d0_4)).mono ?_
    rintro e w5 ⟨vg2, rfl, hg2, b5⟩
    have d0_5 := d0_4.trans (b5.mono d0_4.size)
    have d1_5 := d1_4.trans (b5.mono d1_4.size)
    have d2_5 := d2_4.trans (b5.mono d2_4.size)
    have d3_5 := d3_4.trans (b5.mono d3_4.size)
    have d4_5 := b5
    go_wp2_with fail
    refine (r4same_t (hg.below d1_5) hg2 D6.out).mono ?_
    rintro e w6 ⟨rfl, b6⟩
    have d0_6 := d0_5.trans (b6.mono d0_5.size)
    have d1_6 := d1_5.trans (b6.mono d1_5.size)
    have d2_6 := d2_5.trans (b6.mono d2_5.size)
    have d3_6 := d3_5.trans (b6.mono d3_5.size)
    have d4_6 := d4_5.trans (b6.mono d4_5.size)
    have d5_6 := b6
    go_wp2_with fail
    refine (rtrim_v (lc.below d0_6) (by decide)).mono ?_
    rintro e w7 ⟨vtc, rfl, htc, b7⟩
    have d0_7 := d0_6.trans (b7.mono d0_6.size)
    have d1_7 := d1_6.trans (b7.mono d1_6.size)
    have d2_7 := d2_6.trans (b7.mono d2_6.size)
    have d3_7 := d3_6.trans (b7.mono d3_6.size)
    have d4_7 := d4_6.trans (b7.mono d4_6.size)
    have d5_7 := d5_6.trans (b7.mono d5_6.size)
    have d6_7 := b7
    obtain ⟨Atc, ntc, ctc, rfl, ztc, ptc, itc, jtc, htc⟩ := htc.open
    rcases Nat.eq_zero_or_pos k with hk0 | hk0
    · have HK := hid hk0; clear hk0
      have qtc := ztc HK.out; subst qtc; clear ztc ptc
      go_wp2_with fail
      have hcp := coprime_v (la.below d0_7) (lc.below d0_7) (by decide) (hT.below d0_7)
      cases hcc : (Nat.gcd a k == 1)
      · rw [hcc] at hcp
        clear hcc
        refine (hcp).mono ?_
        rintro e w8 ⟨rfl, b8⟩
        have d0_8 := d0_7.trans (b8.mono d0_7.size)
        have d1_8 := d1_7.trans (b8.mono d1_7.size)
        have d2_8 := d2_7.trans (b8.mono d2_7.size)
        have d3_8 := d3_7.trans (b8.mono d3_7.size)
        have d4_8 := d4_7.trans (b8.mono d4_7.size)
        have d5_8 := d5_7.trans (b8.mono d5_7.size)
        have d6_8 := d6_7.trans (b8.mono d6_7.size)
        have d7_8 := b8
        have ad := radd2_v (lb.below d0_8) (la.below d0_8) (by decide) 23
        have bS8 : Below w8.heap.size w8 (w8.alloc (.cells #[.slice A' n' c', .slice A n c] 23)) := (Below.refl _ w8).alloc (Nat.le_refl _) _
        go_wp2_with fail
        have d0_9 := d0_8.trans (bS8.mono d0_8.size)
        have d1_9 := d1_8.trans (bS8.mono d1_8.size)
        have d2_9 := d2_8.trans (bS8.mono d2_8.size)
        have d3_9 := d3_8.trans (bS8.mono d3_8.size)
        have d4_9 := d4_8.trans (bS8.mono d4_8.size)
        have d5_9 := d5_8.trans (bS8.mono d5_8.size)
        have d6_9 := d6_8.trans (bS8.mono d6_8.size)
        have d7_9 := d7_8.trans (bS8.mono d7_8.size)
        have d8_9 := bS8
        refine (ad).mono ?_
        rintro e w10 ⟨vad, rfl, had, b10⟩
        have d0_10 := d0_9.trans (b10.mono d0_9.size)
        have d1_10 := d1_9.trans (b10.mono d1_9.size)
        have d2_10 := d2_9.trans (b10.mono d2_9.size)
        have d3_10 := d3_9.trans (b10.mono d3_9.size)
        have d4_10 := d4_9.trans (b10.mono d4_9.size)
        have d5_10 := d5_9.trans (b10.mono d5_9.size)
        have d6_10 := d6_9.trans (b10.mono d6_9.size)
        have d7_10 := d7_9.trans (b10.mono d7_9.size)
        have d8_10 := d8_9.trans (b10.mono d8_9.size)
        have d9_10 := b10
        go_wp2_with fail
        refine (gcd_v ((la.below d0_10).mono (by decide)) (had.lv hba7) (by decide) (hT.below d0_10)).mono ?_
        rintro e w11 ⟨vg5, rfl, hg5, b11⟩
        have d0_11 := d0_10.trans (b11.mono d0_10.size)
        have d1_11 := d1_10.trans (b11.mono d1_10.size)
        have d2_11 := d2_10.trans (b11.mono d2_10.size)
        have d3_11 := d3_10.trans (b11.mono d3_10.size)
        have d4_11 := d4_10.trans (b11.mono d4_10.size)
        have d5_11 := d5_10.trans (b11.mono d5_10.size)
        have d6_11 := d6_10.trans (b11.mono d6_10.size)
        have d7_11 := d7_10.trans (b11.mono d7_10.size)
        have d8_11 := d8_10.trans (b11.mono d8_10.size)
        have d9_11 := d9_10.trans (b11.mono d9_10.size)
        have d10_11 := b11
        go_wp2_with fail
        refine (r4same_t hg5 (hg.below d1_11) D3.out).mono ?_
        rintro e w12 ⟨rfl, b12⟩
        have d0_12 := d0_11.trans (b12.mono d0_11.size)
        have d1_12 := d1_11.trans (b12.mono d1_11.size)
        have d2_12 := d2_11.trans (b12.mono d2_11.size)
        have d3_12 := d3_11.trans (b12.mono d3_11.size)
        have d4_12 := d4_11.trans (b12.mono d4_11.size)
        have d5_12 := d5_11.trans (b12.mono d5_11.size)
        have d6_12 := d6_11.trans (b12.mono d6_11.size)
        have d7_12 := d7_11.trans (b12.mono d7_11.size)
        have d8_12 := d8_11.trans (b12.mono d8_11.size)
        have d9_12 := d9_11.trans (b12.mono d9_11.size)
        have d10_12 := d10_11.trans (b12.mono d10_11.size)
        have d11_12 := b12
        have ls2 := LSV.two (la.below d0_12) (lb.below d0_12) (by decide) 23
        have bS12 : Below w12.heap.size w12 (w12.alloc (.cells #[.slice A n c, .slice A' n' c'] 23)) := (Below.refl _ w12).alloc (Nat.le_refl _) _
        go_wp2_with fail
        have d0_13 := d0_12.trans (bS12.mono d0_12.size)
        have d1_13 := d1_12.trans (bS12.mono d1_12.size)
        have d2_13 := d2_12.trans (bS12.mono d2_12.size)
        have d3_13 := d3_12.trans (bS12.mono d3_12.size)
        have d4_13 := d4_12.trans (bS12.mono d4_12.size)
        have d5_13 := d5_12.trans (bS12.mono d5_12.size)
        have d6_13 := d6_12.trans (bS12.mono d6_12.size)
        have d7_13 := d7_12.trans (bS12.mono d7_12.size)
        have d8_13 := d8_12.trans (bS12.mono d8_12.size)
        have d9_13 := d9_12.trans (bS12.mono d9_12.size)
        have d10_13 := d10_12.trans (bS12.mono d10_12.size)
        have d11_13 := d11_12.trans (bS12.mono d11_12.size)
        have d12_13 := bS12
        refine (gall_v ls2 (by decide) (by simp) (hT.below d0_13)).mono ?_
        rintro e w14 ⟨vg6, rfl, hg6, b14⟩
        have d0_14 := d0_13.trans (b14.mono d0_13.size)
        have d1_14 := d1_13.trans (b14.mono d1_13.size)
        have d2_14 := d2_13.trans (b14.mono d2_13.size)
        have d3_14 := d3_13.trans (b14.mono d3_13.size)
        have d4_14 := d4_13.trans (b14.mono d4_13.size)
        have d5_14 := d5_13.trans (b14.mono d5_13.size)
        have d6_14 := d6_13.trans (b14.mono d6_13.size)
        have d7_14 := d7_13.trans (b14.mono d7_13.size)
        have d8_14 := d8_13.trans (b14.mono d8_13.size)
        have d9_14 := d9_13.trans (b14.mono d9_13.size)
        have d10_14 := d10_13.trans (b14.mono d10_13.size)
        have d11_14 := d11_13.trans (b14.mono d11_13.size)
        have d12_14 := d12_13.trans (b14.mono d12_13.size)
        have d13_14 := b14
        go_wp2_with fail
        refine (r4same_t hg6 (hg.below d1_14) D4.out).mono ?_
        rintro e w15 ⟨rfl, b15⟩
        have d0_15 := d0_14.trans (b15.mono d0_14.size)
        have d1_15 := d1_14.trans (b15.mono d1_14.size)
        have d2_15 := d2_14.trans (b15.mono d2_14.size)
        have d3_15 := d3_14.trans (b15.mono d3_14.size)
        have d4_15 := d4_14.trans (b15.mono d4_14.size)
        have d5_15 := d5_14.trans (b15.mono d5_14.size)
        have d6_15 := d6_14.trans (b15.mono d6_14.size)
        have d7_15 := d7_14.trans (b15.mono d7_14.size)
        have d8_15 := d8_14.trans (b15.mono d8_14.size)
        have d9_15 := d9_14.trans (b15.mono d9_14.size)
        have d10_15 := d10_14.trans (b15.mono d10_14.size)
        have d11_15 := d11_14.trans (b15.mono d11_14.size)
        have d12_15 := d12_14.trans (b15.mono d12_14.size)
        have d13_15 := d13_14.trans (b15.mono d13_14.size)
        have d14_15 := b15
        have ls3 := LSV.three (la.below d0_15) (lb.below d0_15) (lc.below d0_15) (by decide) 23
        have bS15 : Below w15.heap.size w15 (w15.alloc (.cells #[.slice A n c, .slice A' n' c', .slice A'' n'' c''] 23)) := (Below.refl _ w15).alloc (Nat.le_refl _) _
        go_wp2_with fail
        have d0_16 := d0_15.trans (bS15.mono d0_15.size)
        have d1_16 := d1_15.trans (bS15.mono d1_15.size)
        have d2_16 := d2_15.trans (bS15.mono d2_15.size)
        have d3_16 := d3_15.trans (bS15.mono d3_15.size)
        have d4_16 := d4_15.trans (bS15.mono d4_15.size)
        have d5_16 := d5_15.trans (bS15.mono d5_15.size)
        have d6_16 := d6_15.trans (bS15.mono d6_15.size)
        have d7_16 := d7_15.trans (bS15.mono d7_15.size)
        have d8_16 := d8_15.trans (bS15.mono d8_15.size)
        have d9_16 := d9_15.trans (bS15.mono d9_15.size)
        have d10_16 := d10_15.trans (bS15.mono d10_15.size)
        have d11_16 := d11_15.trans (bS15.mono d11_15.size)
        have d12_16 := d12_15.trans (bS15.mono d12_15.size)
        have d13_16 := d13_15.trans (bS15.mono d13_15.size)
        have d14_16 := d14_15.trans (bS15.mono d14_15.size)
        have d15_16 := bS15
        refine (gall_v ls3 (by decide) (by simp) (hT.below d0_16)).mono ?_
        rintro e w17 ⟨vg7, rfl, hg7, b17⟩
        have d0_17 := d0_16.trans (b17.mono d0_16.size)
        have d1_17 := d1_16.trans (b17.mono d1_16.size)
        have d2_17 := d2_16.trans (b17.mono d2_16.size)
        have d3_17 := d3_16.trans (b17.mono d3_16.size)
        have d4_17 := d4_16.trans (b17.mono d4_16.size)
        have d5_17 := d5_16.trans (b17.mono d5_16.size)
        have d6_17 := d6_16.trans (b17.mono d6_16.size)
        have d7_17 := d7_16.trans (b17.mono d7_16.size)
        have d8_17 := d8_16.trans (b17.mono d8_16.size)
        have d9_17 := d9_16.trans (b17.mono d9_16.size)
        have d10_17 := d10_16.trans (b17.mono d10_16.size)
        have d11_17 := d11_16.trans (b17.mono d11_16.size)
        have d12_17 := d12_16.trans (b17.mono d12_16.size)
        have d13_17 := d13_16.trans (b17.mono d13_16.size)
        have d14_17 := d14_16.trans (b17.mono d14_16.size)
        have d15_17 := d15_16.trans (b17.mono d15_16.size)
        have d16_17 := b17
        go_wp2_with fail
        refine (gcd_v ((hg.below d1_17).lv hgl) (lc.below d0_17) (by decide) (hT.below d0_17)).mono ?_
        rintro e w18 ⟨vg8, rfl, hg8, b18⟩
        have d0_18 := d0_17.trans (b18.mono d0_17.size)
        have d1_18 := d1_17.trans (b18.mono d1_17.size)
        have d2_18 := d2_17.trans (b18.mono d2_17.size)
        have d3_18 := d3_17.trans (b18.mono d3_17.size)
        have d4_18 := d4_17.trans (b18.mono d4_17.size)
        have d5_18 := d5_17.trans (b18.mono d5_17.size)
        have d6_18 := d6_17.trans (b18.mono d6_17.size)
        have d7_18 := d7_17.trans (b18.mono d7_17.size)
        have d8_18 := d8_17.trans (b18.mono d8_17.size)
        have d9_18 := d9_17.trans (b18.mono d9_17.size)
        have d10_18 := d10_17.trans (b18.mono d10_17.size)
        have d11_18 := d11_17.trans (b18.mono d11_17.size)
        have d12_18 := d12_17.trans (b18.mono d12_17.size)
        have d13_18 := d13_17.trans (b18.mono d13_17.size)
        have d14_18 := d14_17.trans (b18.mono d14_17.size)
        have d15_18 := d15_17.trans (b18.mono d15_17.size)
        have d16_18 := d16_17.trans (b18.mono d16_17.size)
        have d17_18 := b18
        go_wp2_with fail
        refine (r4same_t (hg7.below d17_18) hg8 D5.out).mono ?_
        rintro e w19 ⟨rfl, b19⟩
        have d0_19 := d0_18.trans (b19.mono d0_18.size)
        have d1_19 := d1_18.trans (b19.mono d1_18.size)
        have d2_19 := d2_18.trans (b19.mono d2_18.size)
        have d3_19 := d3_18.trans (b19.mono d3_18.size)
        have d4_19 := d4_18.trans (b19.mono d4_18.size)
        have d5_19 := d5_18.trans (b19.mono d5_18.size)
        have d6_19 := d6_18.trans (b19.mono d6_18.size)
        have d7_19 := d7_18.trans (b19.mono d7_18.size)
        have d8_19 := d8_18.trans (b19.mono d8_18.size)
        have d9_19 := d9_18.trans (b19.mono d9_18.size)
        have d10_19 := d10_18.trans (b19.mono d10_18.size)
        have d11_19 := d11_18.trans (b19.mono d11_18.size)
        have d12_19 := d12_18.trans (b19.mono d12_18.size)
        have d13_19 := d13_18.trans (b19.mono d13_18.size)
        have d14_19 := d14_18.trans (b19.mono d14_18.size)
        have d15_19 := d15_18.trans (b19.mono d15_18.size)
        have d16_19 := d16_18.trans (b19.mono d16_18.size)
        have d17_19 := d17_18.trans (b19.mono d17_18.size)
        have d18_19 := b19
        go_wp2_with fail
        refine (wakes4_any _ (hT.below d0_19)).mono ?_
        rintro e w20 ⟨rfl, b20⟩
        have d0_20 := d0_19.trans (b20.mono d0_19.size)
        have d1_20 := d1_19.trans (b20.mono d1_19.size)
        have d2_20 := d2_19.trans (b20.mono d2_19.size)
        have d3_20 := d3_19.trans (b20.mono d3_19.size)
        have d4_20 := d4_19.trans (b20.mono d4_19.size)
        have d5_20 := d5_19.trans (b20.mono d5_19.size)
        have d6_20 := d6_19.trans (b20.mono d6_19.size)
        have d7_20 := d7_19.trans (b20.mono d7_19.size)
        have d8_20 := d8_19.trans (b20.mono d8_19.size)
        have d9_20 := d9_19.trans (b20.mono d9_19.size)
        have d10_20 := d10_19.trans (b20.mono d10_19.size)
        have d11_20 := d11_19.trans (b20.mono d11_19.size)
        have d12_20 := d12_19.trans (b20.mono d12_19.size)
        have d13_20 := d13_19.trans (b20.mono d13_19.size)
        have d14_20 := d14_19.trans (b20.mono d14_19.size)
        have d15_20 := d15_19.trans (b20.mono d15_19.size)
        have d16_20 := d16_19.trans (b20.mono d16_19.size)
        have d17_20 := d17_19.trans (b20.mono d17_19.size)
        have d18_20 := d18_19.trans (b20.mono d18_19.size)
        have d19_20 := b20
        go_wp2_with fail
        go_ret
        exact ⟨rfl, d0_20⟩
      · rw [hcc] at hcp
        have hc1 : Nat.gcd a k = 1 := eq_of_beq hcc
        have DD := hid (D2.out hc1)
        clear hc1
        clear hcc
        refine (hcp).mono ?_
        rintro e w8 ⟨rfl, b8⟩
        have d0_8 := d0_7.trans (b8.mono d0_7.size)
        have d1_8 := d1_7.trans (b8.mono d1_7.size)
        have d2_8 := d2_7.trans (b8.mono d2_7.size)
        have d3_8 := d3_7.trans (b8.mono d3_7.size)
        have d4_8 := d4_7.trans (b8.mono d4_7.size)
        have d5_8 := d5_7.trans (b8.mono d5_7.size)
        have d6_8 := d6_7.trans (b8.mono d6_7.size)
        have d7_8 := b8
        go_wp2_with fail
        refine (rmul_v (lb.below d0_8) (lc.below d0_8) (by decide)).mono ?_
        rintro e w9 ⟨vbc2, rfl, hbc2, b9⟩
        have d0_9 := d0_8.trans (b9.mono d0_8.size)
        have d1_9 := d1_8.trans (b9.mono d1_8.size)
        have d2_9 := d2_8.trans (b9.mono d2_8.size)
        have d3_9 := d3_8.trans (b9.mono d3_8.size)
        have d4_9 := d4_8.trans (b9.mono d4_8.size)
        have d5_9 := d5_8.trans (b9.mono d5_8.size)
        have d6_9 := d6_8.trans (b9.mono d6_8.size)
        have d7_9 := d7_8.trans (b9.mono d7_8.size)
        have d8_9 := b9
        go_wp2_with fail
        refine (gcd_v ((la.below d0_9).mono (by decide)) (hbc2.lv bbc) (by decide) (hT.below d0_9)).mono ?_
        rintro e w10 ⟨vg4, rfl, hg4, b10⟩
        have d0_10 := d0_9.trans (b10.mono d0_9.size)
        have d1_10 := d1_9.trans (b10.mono d1_9.size)
        have d2_10 := d2_9.trans (b10.mono d2_9.size)
        have d3_10 := d3_9.trans (b10.mono d3_9.size)
        have d4_10 := d4_9.trans (b10.mono d4_9.size)
        have d5_10 := d5_9.trans (b10.mono d5_9.size)
        have d6_10 := d6_9.trans (b10.mono d6_9.size)
        have d7_10 := d7_9.trans (b10.mono d7_9.size)
        have d8_10 := d8_9.trans (b10.mono d8_9.size)
        have d9_10 := b10
        go_wp2_with fail
        refine (r4same_t hg4 (hg.below d1_10) DD.out).mono ?_
        rintro e w11 ⟨rfl, b11⟩
        have d0_11 := d0_10.trans (b11.mono d0_10.size)
        have d1_11 := d1_10.trans (b11.mono d1_10.size)
        have d2_11 := d2_10.trans (b11.mono d2_10.size)
        have d3_11 := d3_10.trans (b11.mono d3_10.size)
        have d4_11 := d4_10.trans (b11.mono d4_10.size)
        have d5_11 := d5_10.trans (b11.mono d5_10.size)
        have d6_11 := d6_10.trans (b11.mono d6_10.size)
        have d7_11 := d7_10.trans (b11.mono d7_10.size)
        have d8_11 := d8_10.trans (b11.mono d8_10.size)
        have d9_11 := d9_10.trans (b11.mono d9_10.size)
        have d10_11 := b11
        have ad := radd2_v (lb.below d0_11) (la.below d0_11) (by decide) 23
        have bS11 : Below w11.heap.size w11 (w11.alloc (.cells #[.slice A' n' c', .slice A n c] 23)) := (Below.refl _ w11).alloc (Nat.le_refl _) _
        go_wp2_with fail
        have d0_12 := d0_11.trans (bS11.mono d0_11.size)
        have d1_12 := d1_11.trans (bS11.mono d1_11.size)
        have d2_12 := d2_11.trans (bS11.mono d2_11.size)
        have d3_12 := d3_11.trans (bS11.mono d3_11.size)
        have d4_12 := d4_11.trans (bS11.mono d4_11.size)
        have d5_12 := d5_11.trans (bS11.mono d5_11.size)
        have d6_12 := d6_11.trans (bS11.mono d6_11.size)
        have d7_12 := d7_11.trans (bS11.mono d7_11.size)
        have d8_12 := d8_11.trans (bS11.mono d8_11.size)
        have d9_12 := d9_11.trans (bS11.mono d9_11.size)
        have d10_12 := d10_11.trans (bS11.mono d10_11.size)
        have d11_12 := bS11
        refine (ad).mono ?_
        rintro e w13 ⟨vad, rfl, had, b13⟩
        have d0_13 := d0_12.trans (b13.mono d0_12.size)
        have d1_13 := d1_12.trans (b13.mono d1_12.size)
        have d2_13 := d2_12.trans (b13.mono d2_12.size)
        have d3_13 := d3_12.trans (b13.mono d3_12.size)
        have d4_13 := d4_12.trans (b13.mono d4_12.size)
        have d5_13 := d5_12.trans (b13.mono d5_12.size)
        have d6_13 := d6_12.trans (b13.mono d6_12.size)
        have d7_13 := d7_12.trans (b13.mono d7_12.size)
        have d8_13 := d8_12.trans (b13.mono d8_12.size)
        have d9_13 := d9_12.trans (b13.mono d9_12.size)
        have d10_13 := d10_12.trans (b13.mono d10_12.size)
        have d11_13 := d11_12.trans (b13.mono d11_12.size)
        have d12_13 := b13
        go_wp2_with fail
        refine (gcd_v ((la.below d0_13).mono (by decide)) (had.lv hba7) (by decide) (hT.below d0_13)).mono ?_
        rintro e w14 ⟨vg5, rfl, hg5, b14⟩
        have d0_14 := d0_13.trans (b14.mono d0_13.size)
        have d1_14 := d1_13.trans (b14.mono d1_13.size)
        have d2_14 := d2_13.trans (b14.mono d2_13.size)
        have d3_14 := d3_13.trans (b14.mono d3_13.size)
        have d4_14 := d4_13.trans (b14.mono d4_13.size)
        have d5_14 := d5_13.trans (b14.mono d5_13.size)
        have d6_14 := d6_13.trans (b14.mono d6_13.size)
        have d7_14 := d7_13.trans (b14.mono d7_13.size)
        have d8_14 := d8_13.trans (b14.mono d8_13.size)
        have d9_14 := d9_13.trans (b14.mono d9_13.size)
        have d10_14 := d10_13.trans (b14.mono d10_13.size)
        have d11_14 := d11_13.trans (b14.mono d11_13.size)
        have d12_14 := d12_13.trans (b14.mono d12_13.size)
        have d13_14 := b14
        go_wp2_with fail
        refine (r4same_t hg5 (hg.below d1_14) D3.out).mono ?_
        rintro e w15 ⟨rfl, b15⟩
        have d0_15 := d0_14.trans (b15.mono d0_14.size)
        have d1_15 := d1_14.trans (b15.mono d1_14.size)
        have d2_15 := d2_14.trans (b15.mono d2_14.size)
        have d3_15 := d3_14.trans (b15.mono d3_14.size)
        have d4_15 := d4_14.trans (b15.mono d4_14.size)
        have d5_15 := d5_14.trans (b15.mono d5_14.size)
        have d6_15 := d6_14.trans (b15.mono d6_14.size)
        have d7_15 := d7_14.trans (b15.mono d7_14.size)
        have d8_15 := d8_14.trans (b15.mono d8_14.size)
        have d9_15 := d9_14.trans (b15.mono d9_14.size)
        have d10_15 := d10_14.trans (b15.mono d10_14.size)
        have d11_15 := d11_14.trans (b15.mono d11_14.size)
        have d12_15 := d12_14.trans (b15.mono d12_14.size)
        have d13_15 := d13_14.trans (b15.mono d13_14.size)
        have d14_15 := b15
        have ls2 := LSV.two (la.below d0_15) (lb.below d0_15) (by decide) 23
        have bS15 : Below w15.heap.size w15 (w15.alloc (.cells #[.slice A n c, .slice A' n' c'] 23)) := (Below.refl _ w15).alloc (Nat.le_refl _) _
        go_wp2_with fail
        have d0_16 := d0_15.trans (bS15.mono d0_15.size)
        have d1_16 := d1_15.trans (bS15.mono d1_15.size)
        have d2_16 := d2_15.trans (bS15.mono d2_15.size)
        have d3_16 := d3_15.trans (bS15.mono d3_15.size)
        have d4_16 := d4_15.trans (bS15.mono d4_15.size)
        have d5_16 := d5_15.trans (bS15.mono d5_15.size)
        have d6_16 := d6_15.trans (bS15.mono d6_15.size)
        have d7_16 := d7_15.trans (bS15.mono d7_15.size)
        have d8_16 := d8_15.trans (bS15.mono d8_15.size)
        have d9_16 := d9_15.trans (bS15.mono d9_15.size)
        have d10_16 := d10_15.trans (bS15.mono d10_15.size)
        have d11_16 := d11_15.trans (bS15.mono d11_15.size)
        have d12_16 := d12_15.trans (bS15.mono d12_15.size)
        have d13_16 := d13_15.trans (bS15.mono d13_15.size)
        have d14_16 := d14_15.trans (bS15.mono d14_15.size)
        have d15_16 := bS15
        refine (gall_v ls2 (by decide) (by simp) (hT.below d0_16)).mono ?_
        rintro e w17 ⟨vg6, rfl, hg6, b17⟩
        have d0_17 := d0_16.trans (b17.mono d0_16.size)
        have d1_17 := d1_16.trans (b17.mono d1_16.size)
        have d2_17 := d2_16.trans (b17.mono d2_16.size)
        have d3_17 := d3_16.trans (b17.mono d3_16.size)
        have d4_17 := d4_16.trans (b17.mono d4_16.size)
        have d5_17 := d5_16.trans (b17.mono d5_16.size)
        have d6_17 := d6_16.trans (b17.mono d6_16.size)
        have d7_17 := d7_16.trans (b17.mono d7_16.size)
        have d8_17 := d8_16.trans (b17.mono d8_16.size)
        have d9_17 := d9_16.trans (b17.mono d9_16.size)
        have d10_17 := d10_16.trans (b17.mono d10_16.size)
        have d11_17 := d11_16.trans (b17.mono d11_16.size)
        have d12_17 := d12_16.trans (b17.mono d12_16.size)
        have d13_17 := d13_16.trans (b17.mono d13_16.size)
        have d14_17 := d14_16.trans (b17.mono d14_16.size)
        have d15_17 := d15_16.trans (b17.mono d15_16.size)
        have d16_17 := b17
        go_wp2_with fail
        refine (r4same_t hg6 (hg.below d1_17) D4.out).mono ?_
        rintro e w18 ⟨rfl, b18⟩
        have d0_18 := d0_17.trans (b18.mono d0_17.size)
        have d1_18 := d1_17.trans (b18.mono d1_17.size)
        have d2_18 := d2_17.trans (b18.mono d2_17.size)
        have d3_18 := d3_17.trans (b18.mono d3_17.size)
        have d4_18 := d4_17.trans (b18.mono d4_17.size)
        have d5_18 := d5_17.trans (b18.mono d5_17.size)
        have d6_18 := d6_17.trans (b18.mono d6_17.size)
        have d7_18 := d7_17.trans (b18.mono d7_17.size)
        have d8_18 := d8_17.trans (b18.mono d8_17.size)
        have d9_18 := d9_17.trans (b18.mono d9_17.size)
        have d10_18 := d10_17.trans (b18.mono d10_17.size)
        have d11_18 := d11_17.trans (b18.mono d11_17.size)
        have d12_18 := d12_17.trans (b18.mono d12_17.size)
        have d13_18 := d13_17.trans (b18.mono d13_17.size)
        have d14_18 := d14_17.trans (b18.mono d14_17.size)
        have d15_18 := d15_17.trans (b18.mono d15_17.size)
        have d16_18 := d16_17.trans (b18.mono d16_17.size)
        have d17_18 := b18
        have ls3 := LSV.three (la.below d0_18) (lb.below d0_18) (lc.below d0_18) (by decide) 23
        have bS18 : Below w18.heap.size w18 (w18.alloc (.cells #[.slice A n c, .slice A' n' c', .slice A'' n'' c''] 23)) := (Below.refl _ w18).alloc (Nat.le_refl _) _
        go_wp2_with fail
        have d0_19 := d0_18.trans (bS18.mono d0_18.size)
        have d1_19 := d1_18.trans (bS18.mono d1_18.size)
        have d2_19 := d2_18.trans (bS18.mono d2_18.size)
        have d3_19 := d3_18.trans (bS18.mono d3_18.size)
        have d4_19 := d4_18.trans (bS18.mono d4_18.size)
        have d5_19 := d5_18.trans (bS18.mono d5_18.size)
        have d6_19 := d6_18.trans (bS18.mono d6_18.size)
        have d7_19 := d7_18.trans (bS18.mono d7_18.size)
        have d8_19 := d8_18.trans (bS18.mono d8_18.size)
        have d9_19 := d9_18.trans (bS18.mono d9_18.size)
        have d10_19 := d10_18.trans (bS18.mono d10_18.size)
        have d11_19 := d11_18.trans (bS18.mono d11_18.size)
        have d12_19 := d12_18.trans (bS18.mono d12_18.size)
        have d13_19 := d13_18.trans (bS18.mono d13_18.size)
        have d14_19 := d14_18.trans (bS18.mono d14_18.size)
        have d15_19 := d15_18.trans (bS18.mono d15_18.size)
        have d16_19 := d16_18.trans (bS18.mono d16_18.size)
        have d17_19 := d17_18.trans (bS18.mono d17_18.size)
        have d18_19 := bS18
        refine (gall_v ls3 (by decide) (by simp) (hT.below d0_19)).mono ?_
        rintro e w20 ⟨vg7, rfl, hg7, b20⟩
        have d0_20 := d0_19.trans (b20.mono d0_19.size)
        have d1_20 := d1_19.trans (b20.mono d1_19.size)
        have d2_20 := d2_19.trans (b20.mono d2_19.size)
        have d3_20 := d3_19.trans (b20.mono d3_19.size)
        have d4_20 := d4_19.trans (b20.mono d4_19.size)
        have d5_20 := d5_19.trans (b20.mono d5_19.size)
        have d6_20 := d6_19.trans (b20.mono d6_19.size)
        have d7_20 := d7_19.trans (b20.mono d7_19.size)
        have d8_20 := d8_19.trans (b20.mono d8_19.size)
        have d9_20 := d9_19.trans (b20.mono d9_19.size)
        have d10_20 := d10_19.trans (b20.mono d10_19.size)
        have d11_20 := d11_19.trans (b20.mono d11_19.size)
        have d12_20 := d12_19.trans (b20.mono d12_19.size)
        have d13_20 := d13_19.trans (b20.mono d13_19.size)
        have d14_20 := d14_19.trans (b20.mono d14_19.size)
        have d15_20 := d15_19.trans (b20.mono d15_19.size)
        have d16_20 := d16_19.trans (b20.mono d16_19.size)
        have d17_20 := d17_19.trans (b20.mono d17_19.size)
        have d18_20 := d18_19.trans (b20.mono d18_19.size)
        have d19_20 := b20
        go_wp2_with fail
        refine (gcd_v ((hg.below d1_20).lv hgl) (lc.below d0_20) (by decide) (hT.below d0_20)).mono ?_
        rintro e w21 ⟨vg8, rfl, hg8, b21⟩
        have d0_21 := d0_20.trans (b21.mono d0_20.size)
        have d1_21 := d1_20.trans (b21.mono d1_20.size)
        have d2_21 := d2_20.trans (b21.mono d2_20.size)
        have d3_21 := d3_20.trans (b21.mono d3_20.size)
        have d4_21 := d4_20.trans (b21.mono d4_20.size)
        have d5_21 := d5_20.trans (b21.mono d5_20.size)
        have d6_21 := d6_20.trans (b21.mono d6_20.size)
        have d7_21 := d7_20.trans (b21.mono d7_20.size)
        have d8_21 := d8_20.trans (b21.mono d8_20.size)
        have d9_21 := d9_20.trans (b21.mono d9_20.size)
        have d10_21 := d10_20.trans (b21.mono d10_20.size)
        have d11_21 := d11_20.trans (b21.mono d11_20.size)
        have d12_21 := d12_20.trans (b21.mono d12_20.size)
        have d13_21 := d13_20.trans (b21.mono d13_20.size)
        have d14_21 := d14_20.trans (b21.mono d14_20.size)
        have d15_21 := d15_20.trans (b21.mono d15_20.size)
        have d16_21 := d16_20.trans (b21.mono d16_20.size)
        have d17_21 := d17_20.trans (b21.mono d17_20.size)
        have d18_21 := d18_20.trans (b21.mono d18_20.size)
        have d19_21 := d19_20.trans (b21.mono d19_20.size)
        have d20_21 := b21
        go_wp2_with fail
        refine (r4same_t (hg7.below d20_21) hg8 D5.out).mono ?_
        rintro e w22 ⟨rfl, b22⟩
        have d0_22 := d0_21.trans (b22.mono d0_21.size)
        have d1_22 := d1_21.trans (b22.mono d1_21.size)
        have d2_22 := d2_21.trans (b22.mono d2_21.size)
        have d3_22 := d3_21.trans (b22.mono d3_21.size)
        have d4_22 := d4_21.trans (b22.mono d4_21.size)
        have d5_22 := d5_21.trans (b22.mono d5_21.size)
        have d6_22 := d6_21.trans (b22.mono d6_21.size)
        have d7_22 := d7_21.trans (b22.mono d7_21.size)
        have d8_22 := d8_21.trans (b22.mono d8_21.size)
        have d9_22 := d9_21.trans (b22.mono d9_21.size)
        have d10_22 := d10_21.trans (b22.mono d10_21.size)
        have d11_22 := d11_21.trans (b22.mono d11_21.size)
        have d12_22 := d12_21.trans (b22.mono d12_21.size)
        have d13_22 := d13_21.trans (b22.mono d13_21.size)
        have d14_22 := d14_21.trans (b22.mono d14_21.size)
        have d15_22 := d15_21.trans (b22.mono d15_21.size)
        have d16_22 := d16_21.trans (b22.mono d16_21.size)
        have d17_22 := d17_21.trans (b22.mono d17_21.size)
        have d18_22 := d18_21.trans (b22.mono d18_21.size)
        have d19_22 := d19_21.trans (b22.mono d19_21.size)
        have d20_22 := d20_21.trans (b22.mono d20_21.size)
        have d21_22 := b22
        go_wp2_with fail
        refine (wakes4_any _ (hT.below d0_22)).mono ?_
        rintro e w23 ⟨rfl, b23⟩
        have d0_23 := d0_22.trans (b23.mono d0_22.size)
        have d1_23 := d1_22.trans (b23.mono d1_22.size)
        have d2_23 := d2_22.trans (b23.mono d2_22.size)
        have d3_23 := d3_22.trans (b23.mono d3_22.size)
        have d4_23 := d4_22.trans (b23.mono d4_22.size)
        have d5_23 := d5_22.trans (b23.mono d5_22.size)
        have d6_23 := d6_22.trans (b23.mono d6_22.size)
        have d7_23 := d7_22.trans (b23.mono d7_22.size)
        have d8_23 := d8_22.trans (b23.mono d8_22.size)
        have d9_23 := d9_22.trans (b23.mono d9_22.size)
        have d10_23 := d10_22.trans (b23.mono d10_22.size)
        have d11_23 := d11_22.trans (b23.mono d11_22.size)
        have d12_23 := d12_22.trans (b23.mono d12_22.size)
        have d13_23 := d13_22.trans (b23.mono d13_22.size)
        have d14_23 := d14_22.trans (b23.mono d14_22.size)
        have d15_23 := d15_22.trans (b23.mono d15_22.size)
        have d16_23 := d16_22.trans (b23.mono d16_22.size)
        have d17_23 := d17_22.trans (b23.mono d17_22.size)
        have d18_23 := d18_22.trans (b23.mono d18_22.size)
        have d19_23 := d19_22.trans (b23.mono d19_22.size)
        have d20_23 := d20_22.trans (b23.mono d20_22.size)
        have d21_23 := d21_22.trans (b23.mono d21_22.size)
        have d22_23 := b23
        go_wp2_with fail
        go_ret
        exact ⟨rfl, d0_23⟩
    · have qtc := ptc hk0; clear ztc ptc
      go_wp2_with fail
      refine (rmul_v (la.below d0_7) (lc.below d0_7) (by decide)).mono ?_
      rintro e w8 ⟨vac, rfl, hac, b8⟩
      have d0_8 := d0_7.trans (b8.mono d0_7.size)
      have d1_8 := d1_7.trans (b8.mono d1_7.size)
      have d2_8 := d2_7.trans (b8.mono d2_7.size)
      have d3_8 := d3_7.trans (b8.mono d3_7.size)
      have d4_8 := d4_7.trans (b8.mono d4_7.size)
      have d5_8 := d5_7.trans (b8.mono d5_7.size)
      have d6_8 := d6_7.trans (b8.mono d6_7.size)
      have d7_8 := b8
      go_wp2_with fail
      refine (rmul_v (lb.below d0_8) (lc.below d0_8) (by decide)).mono ?_
      rintro e w9 ⟨vbc, rfl, hbc, b9⟩
      have d0_9 := d0_8.trans (b9.mono d0_8.size)
      have d1_9 := d1_8.trans (b9.mono d1_8.size)
      have d2_9 := d2_8.trans (b9.mono d2_8.size)
      have d3_9 := d3_8.trans (b9.mono d3_8.size)
      have d4_9 := d4_8.trans (b9.mono d4_8.size)
      have d5_9 := d5_8.trans (b9.mono d5_8.size)
      have d6_9 := d6_8.trans (b9.mono d6_8.size)
      have d7_9 := d7_8.trans (b9.mono d7_8.size)
      have d8_9 := b9
      go_wp2_with fail
      refine (gcd_v ((hac.below d8_9).lv bac) (hbc.lv bbc) (by decide) (hT.below d0_9)).mono ?_
      rintro e w10 ⟨vg3, rfl, hg3, b10⟩
      have d0_10 := d0_9.trans (b10.mono d0_9.size)
      have d1_10 := d1_9.trans (b10.mono d1_9.size)
      have d2_10 := d2_9.trans (b10.mono d2_9.size)
      have d3_10 := d3_9.trans (b10.mono d3_9.size)
      have d4_10 := d4_9.trans (b10.mono d4_9.size)
      have d5_10 := d5_9.trans (b10.mono d5_9.size)
      have d6_10 := d6_9.trans (b10.mono d6_9.size)
      have d7_10 := d7_9.trans (b10.mono d7_9.size)
      have d8_10 := d8_9.trans (b10.mono d8_9.size)
      have d9_10 := b10
      go_wp2_with fail
      refine (rmul_v ((hg.below d1_10).lv hgl) (lc.below d0_10) (by decide)).mono ?_
      rintro e w11 ⟨vgc, rfl, hgc, b11⟩
      have d0_11 := d0_10.trans (b11.mono d0_10.size)
      have d1_11 := d1_10.trans (b11.mono d1_10.size)
      have d2_11 := d2_10.trans (b11.mono d2_10.size)
      have d3_11 := d3_10.trans (b11.mono d3_10.size)
      have d4_11 := d4_10.trans (b11.mono d4_10.size)
      have d5_11 := d5_10.trans (b11.mono d5_10.size)
      have d6_11 := d6_10.trans (b11.mono d6_10.size)
      have d7_11 := d7_10.trans (b11.mono d7_10.size)
      have d8_11 := d8_10.trans (b11.mono d8_10.size)
      have d9_11 := d9_10.trans (b11.mono d9_10.size)
      have d10_11 := b11
      go_wp2_with fail
      refine (r4same_t (hg3.below d10_11) hgc D1.out).mono ?_
      rintro e w12 ⟨rfl, b12⟩
      have d0_12 := d0_11.trans (b12.mono d0_11.size)
      have d1_12 := d1_11.trans (b12.mono d1_11.size)
      have d2_12 := d2_11.trans (b12.mono d2_11.size)
      have d3_12 := d3_11.trans (b12.mono d3_11.size)
      have d4_12 := d4_11.trans (b12.mono d4_11.size)
      have d5_12 := d5_11.trans (b12.mono d5_11.size)
      have d6_12 := d6_11.trans (b12.mono d6_11.size)
      have d7_12 := d7_11.trans (b12.mono d7_11.size)
      have d8_12 := d8_11.trans (b12.mono d8_11.size)
      have d9_12 := d9_11.trans (b12.mono d9_11.size)
      have d10_12 := d10_11.trans (b12.mono d10_11.size)
      have d11_12 := b12
      go_wp2_with fail
      have hcp := coprime_v (la.below d0_12) (lc.below d0_12) (by decide) (hT.below d0_12)
      cases hcc : (Nat.gcd a k == 1)
      · rw [hcc] at hcp
        clear hcc
        refine (hcp).mono ?_
        rintro e w13 ⟨rfl, b13⟩
        have d0_13 := d0_12.trans (b13.mono d0_12.size)
        have d1_13 := d1_12.trans (b13.mono d1_12.size)
        have d2_13 := d2_12.trans (b13.mono d2_12.size)
        have d3_13 := d3_12.trans (b13.mono d3_12.size)
        have d4_13 := d4_12.trans (b13.mono d4_12.size)
        have d5_13 := d5_12.trans (b13.mono d5_12.size)
        have d6_13 := d6_12.trans (b13.mono d6_12.size)
        have d7_13 := d7_12.trans (b13.mono d7_12.size)
        have d8_13 := d8_12.trans (b13.mono d8_12.size)
        have d9_13 := d9_12.trans (b13.mono d9_12.size)
        have d10_13 := d10_12.trans (b13.mono d10_12.size)
        have d11_13 := d11_12.trans (b13.mono d11_12.size)
        have d12_13 := b13
        have ad := radd2_v (lb.below d0_13) (la.below d0_13) (by decide) 23
        have bS13 : Below w13.heap.size w13 (w13.alloc (.cells #[.slice A' n' c', .slice A n c] 23)) := (Below.refl _ w13).alloc (Nat.le_refl _) _
        go_wp2_with fail
        have d0_14 := d0_13.trans (bS13.mono d0_13.size)
        have d1_14 := d1_13.trans (bS13.mono d1_13.size)
        have d2_14 := d2_13.trans (bS13.mono d2_13.size)
        have d3_14 := d3_13.trans (bS13.mono d3_13.size)
        have d4_14 := d4_13.trans (bS13.mono d4_13.size)
        have d5_14 := d5_13.trans (bS13.mono d5_13.size)
        have d6_14 := d6_13.trans (bS13.mono d6_13.size)
        have d7_14 := d7_13.trans (bS13.mono d7_13.size)
        have d8_14 := d8_13.trans (bS13.mono d8_13.size)
        have d9_14 := d9_13.trans (bS13.mono d9_13.size)
        have d10_14 := d10_13.trans (bS13.mono d10_13.size)
        have d11_14 := d11_13.trans (bS13.mono d11_13.size)
        have d12_14 := d12_13.trans (bS13.mono d12_13.size)
        have d13_14 := bS13
        refine (ad).mono ?_
        rintro e w15 ⟨vad, rfl, had, b15⟩
        have d0_15 := d0_14.trans (b15.mono d0_14.size)
        have d1_15 := d1_14.trans (b15.mono d1_14.size)
        have d2_15 := d2_14.trans (b15.mono d2_14.size)
        have d3_15 := d3_14.trans (b15.mono d3_14.size)
        have d4_15 := d4_14.trans (b15.mono d4_14.size)
        have d5_15 := d5_14.trans (b15.mono d5_14.size)
        have d6_15 := d6_14.trans (b15.mono d6_14.size)
        have d7_15 := d7_14.trans (b15.mono d7_14.size)
        have d8_15 := d8_14.trans (b15.mono d8_14.size)
        have d9_15 := d9_14.trans (b15.mono d9_14.size)
        have d10_15 := d10_14.trans (b15.mono d10_14.size)
        have d11_15 := d11_14.trans (b15.mono d11_14.size)
        have d12_15 := d12_14.trans (b15.mono d12_14.size)
        have d13_15 := d13_14.trans (b15.mono d13_14.size)
        have d14_15 := b15
        go_wp2_with fail
        refine (gcd_v ((la.below d0_15).mono (by decide)) (had.lv hba7) (by decide) (hT.below d0_15)).mono ?_
        rintro e w16 ⟨vg5, rfl, hg5, b16⟩
        have d0_16 := d0_15.trans (b16.mono d0_15.size)
        have d1_16 := d1_15.trans (b16.mono d1_15.size)
        have d2_16 := d2_15.trans (b16.mono d2_15.size)
        have d3_16 := d3_15.trans (b16.mono d3_15.size)
        have d4_16 := d4_15.trans (b16.mono d4_15.size)
        have d5_16 := d5_15.trans (b16.mono d5_15.size)
        have d6_16 := d6_15.trans (b16.mono d6_15.size)
        have d7_16 := d7_15.trans (b16.mono d7_15.size)
        have d8_16 := d8_15.trans (b16.mono d8_15.size)
        have d9_16 := d9_15.trans (b16.mono d9_15.size)
        have d10_16 := d10_15.trans (b16.mono d10_15.size)
        have d11_16 := d11_15.trans (b16.mono d11_15.size)
        have d12_16 := d12_15.trans (b16.mono d12_15.size)
        have d13_16 := d13_15.trans (b16.mono d13_15.size)
        have d14_16 := d14_15.trans (b16.mono d14_15.size)
        have d15_16 := b16
        go_wp2_with fail
        refine (r4same_t hg5 (hg.below d1_16) D3.out).mono ?_
        rintro e w17 ⟨rfl, b17⟩
        have d0_17 := d0_16.trans (b17.mono d0_16.size)
        have d1_17 := d1_16.trans (b17.mono d1_16.size)
        have d2_17 := d2_16.trans (b17.mono d2_16.size)
        have d3_17 := d3_16.trans (b17.mono d3_16.size)
        have d4_17 := d4_16.trans (b17.mono d4_16.size)
        have d5_17 := d5_16.trans (b17.mono d5_16.size)
        have d6_17 := d6_16.trans (b17.mono d6_16.size)
        have d7_17 := d7_16.trans (b17.mono d7_16.size)
        have d8_17 := d8_16.trans (b17.mono d8_16.size)
        have d9_17 := d9_16.trans (b17.mono d9_16.size)
        have d10_17 := d10_16.trans (b17.mono d10_16.size)
        have d11_17 := d11_16.trans (b17.mono d11_16.size)
        have d12_17 := d12_16.trans (b17.mono d12_16.size)
        have d13_17 := d13_16.trans (b17.mono d13_16.size)
        have d14_17 := d14_16.trans (b17.mono d14_16.size)
        have d15_17 := d15_16.trans (b17.mono d15_16.size)
        have d16_17 := b17
        have ls2 := LSV.two (la.below d0_17) (lb.below d0_17) (by decide) 23
        have bS17 : Below w17.heap.size w17 (w17.alloc (.cells #[.slice A n c, .slice A' n' c'] 23)) := (Below.refl _ w17).alloc (Nat.le_refl _) _
        go_wp2_with fail
        have d0_18 := d0_17.trans (bS17.mono d0_17.size)
        have d1_18 := d1_17.trans (bS17.mono d1_17.size)
        have d2_18 := d2_17.trans (bS17.mono d2_17.size)
        have d3_18 := d3_17.trans (bS17.mono d3_17.size)
        have d4_18 := d4_17.trans (bS17.mono d4_17.size)
        have d5_18 := d5_17.trans (bS17.mono d5_17.size)
        have d6_18 := d6_17.trans (bS17.mono d6_17.size)
        have d7_18 := d7_17.trans (bS17.mono d7_17.size)
        have d8_18 := d8_17.trans (bS17.mono d8_17.size)
        have d9_18 := d9_17.trans (bS17.mono d9_17.size)
        have d10_18 := d10_17.trans (bS17.mono d10_17.size)
        have d11_18 := d11_17.trans (bS17.mono d11_17.size)
        have d12_18 := d12_17.trans (bS17.mono d12_17.size)
        have d13_18 := d13_17.trans (bS17.mono d13_17.size)
        have d14_18 := d14_17.trans (bS17.mono d14_17.size)
        have d15_18 := d15_17.trans (bS17.mono d15_17.size)
        have d16_18 := d16_17.trans (bS17.mono d16_17.size)
        have d17_18 := bS17
        refine (gall_v ls2 (by decide) (by simp) (hT.below d0_18)).mono ?_
        rintro e w19 ⟨vg6, rfl, hg6, b19⟩
        have d0_19 := d0_18.trans (b19.mono d0_18.size)
        have d1_19 := d1_18.trans (b19.mono d1_18.size)
        have d2_19 := d2_18.trans (b19.mono d2_18.size)
        have d3_19 := d3_18.trans (b19.mono d3_18.size)
        have d4_19 := d4_18.trans (b19.mono d4_18.size)
        have d5_19 := d5_18.trans (b19.mono d5_18.size)
        have d6_19 := d6_18.trans (b19.mono d6_18.size)
        have d7_19 := d7_18.trans (b19.mono d7_18.size)
        have d8_19 := d8_18.trans (b19.mono d8_18.size)
        have d9_19 := d9_18.trans (b19.mono d9_18.size)
        have d10_19 := d10_18.trans (b19.mono d10_18.size)
        have d11_19 := d11_18.trans (b19.mono d11_18.size)
        have d12_19 := d12_18.trans (b19.mono d12_18.size)
        have d13_19 := d13_18.trans (b19.mono d13_18.size)
        have d14_19 := d14_18.trans (b19.mono d14_18.size)
        have d15_19 := d15_18.trans (b19.mono d15_18.size)
        have d16_19 := d16_18.trans (b19.mono d16_18.size)
        have d17_19 := d17_18.trans (b19.mono d17_18.size)
        have d18_19 := b19
        go_wp2_with fail
        refine (r4same_t hg6 (hg.below d1_19) D4.out).mono ?_
        rintro e w20 ⟨rfl, b20⟩
        have d0_20 := d0_19.trans (b20.mono d0_19.size)
        have d1_20 := d1_19.trans (b20.mono d1_19.size)
        have d2_20 := d2_19.trans (b20.mono d2_19.size)
        have d3_20 := d3_19.trans (b20.mono d3_19.size)
        have d4_20 := d4_19.trans (b20.mono d4_19.size)
        have d5_20 := d5_19.trans (b20.mono d5_19.size)
        have d6_20 := d6_19.trans (b20.mono d6_19.size)
        have d7_20 := d7_19.trans (b20.mono d7_19.size)
        have d8_20 := d8_19.trans (b20.mono d8_19.size)
        have d9_20 := d9_19.trans (b20.mono d9_19.size)
        have d10_20 := d10_19.trans (b20.mono d10_19.size)
        have d11_20 := d11_19.trans (b20.mono d11_19.size)
        have d12_20 := d12_19.trans (b20.mono d12_19.size)
        have d13_20 := d13_19.trans (b20.mono d13_19.size)
        have d14_20 := d14_19.trans (b20.mono d14_19.size)
        have d15_20 := d15_19.trans (b20.mono d15_19.size)
        have d16_20 := d16_19.trans (b20.mono d16_19.size)
        have d17_20 := d17_19.trans (b20.mono d17_19.size)
        have d18_20 := d18_19.trans (b20.mono d18_19.size)
        have d19_20 := b20
        have ls3 := LSV.three (la.below d0_20) (lb.below d0_20) (lc.below d0_20) (by decide) 23
        have bS20 : Below w20.heap.size w20 (w20.alloc (.cells #[.slice A n c, .slice A' n' c', .slice A'' n'' c''] 23)) := (Below.refl _ w20).alloc (Nat.le_refl _) _
        go_wp2_with fail
        have d0_21 := d0_20.trans (bS20.mono d0_20.size)
        have d1_21 := d1_20.trans (bS20.mono d1_20.size)
        have d2_21 := d2_20.trans (bS20.mono d2_20.size)
        have d3_21 := d3_20.trans (bS20.mono d3_20.size)
        have d4_21 := d4_20.trans (bS20.mono d4_20.size)
        have d5_21 := d5_20.trans (bS20.mono d5_20.size)
        have d6_21 := d6_20.trans (bS20.mono d6_20.size)
        have d7_21 := d7_20.trans (bS20.mono d7_20.size)
        have d8_21 := d8_20.trans (bS20.mono d8_20.size)
        have d9_21 := d9_20.trans (bS20.mono d9_20.size)
        have d10_21 := d10_20.trans (bS20.mono d10_20.size)
        have d11_21 := d11_20.trans (bS20.mono d11_20.size)
        have d12_21 := d12_20.trans (bS20.mono d12_20.size)
        have d13_21 := d13_20.trans (bS20.mono d13_20.size)
        have d14_21 := d14_20.trans (bS20.mono d14_20.size)
        have d15_21 := d15_20.trans (bS20.mono d15_20.size)
        have d16_21 := d16_20.trans (bS20.mono d16_20.size)
        have d17_21 := d17_20.trans (bS20.mono d17_20.size)
        have d18_21 := d18_20.trans (bS20.mono d18_20.size)
        have d19_21 := d19_20.trans (bS20.mono d19_20.size)
        have d20_21 := bS20
        refine (gall_v ls3 (by decide) (by simp) (hT.below d0_21)).mono ?_
        rintro e w22 ⟨vg7, rfl, hg7, b22⟩
        have d0_22 := d0_21.trans (b22.mono d0_21.size)
        have d1_22 := d1_21.trans (b22.mono d1_21.size)
        have d2_22 := d2_21.trans (b22.mono d2_21.size)
        have d3_22 := d3_21.trans (b22.mono d3_21.size)
        have d4_22 := d4_21.trans (b22.mono d4_21.size)
        have d5_22 := d5_21.trans (b22.mono d5_21.size)
        have d6_22 := d6_21.trans (b22.mono d6_21.size)
        have d7_22 := d7_21.trans (b22.mono d7_21.size)
        have d8_22 := d8_21.trans (b22.mono d8_21.size)
        have d9_22 := d9_21.trans (b22.mono d9_21.size)
        have d10_22 := d10_21.trans (b22.mono d10_21.size)
        have d11_22 := d11_21.trans (b22.mono d11_21.size)
        have d12_22 := d12_21.trans (b22.mono d12_21.size)
        have d13_22 := d13_21.trans (b22.mono d13_21.size)
        have d14_22 := d14_21.trans (b22.mono d14_21.size)
        have d15_22 := d15_21.trans (b22.mono d15_21.size)
        have d16_22 := d16_21.trans (b22.mono d16_21.size)
        have d17_22 := d17_21.trans (b22.mono d17_21.size)
        have d18_22 := d18_21.trans (b22.mono d18_21.size)
        have d19_22 := d19_21.trans (b22.mono d19_21.size)
        have d20_22 := d20_21.trans (b22.mono d20_21.size)
        have d21_22 := b22
        go_wp2_with fail
        refine (gcd_v ((hg.below d1_22).lv hgl) (lc.below d0_22) (by decide) (hT.below d0_22)).mono ?_
        rintro e w23 ⟨vg8, rfl, hg8, b23⟩
        have d0_23 := d0_22.trans (b23.mono d0_22.size)
        have d1_23 := d1_22.trans (b23.mono d1_22.size)
        have d2_23 := d2_22.trans (b23.mono d2_22.size)
        have d3_23 := d3_22.trans (b23.mono d3_22.size)
        have d4_23 := d4_22.trans (b23.mono d4_22.size)
        have d5_23 := d5_22.trans (b23.mono d5_22.size)
        have d6_23 := d6_22.trans (b23.mono d6_22.size)
        have d7_23 := d7_22.trans (b23.mono d7_22.size)
        have d8_23 := d8_22.trans (b23.mono d8_22.size)
        have d9_23 := d9_22.trans (b23.mono d9_22.size)
        have d10_23 := d10_22.trans (b23.mono d10_22.size)
        have d11_23 := d11_22.trans (b23.mono d11_22.size)
        have d12_23 := d12_22.trans (b23.mono d12_22.size)
        have d13_23 := d13_22.trans (b23.mono d13_22.size)
        have d14_23 := d14_22.trans (b23.mono d14_22.size)
        have d15_23 := d15_22.trans (b23.mono d15_22.size)
        have d16_23 := d16_22.trans (b23.mono d16_22.size)
        have d17_23 := d17_22.trans (b23.mono d17_22.size)
        have d18_23 := d18_22.trans (b23.mono d18_22.size)
        have d19_23 := d19_22.trans (b23.mono d19_22.size)
        have d20_23 := d20_22.trans (b23.mono d20_22.size)
        have d21_23 := d21_22.trans (b23.mono d21_22.size)
        have d22_23 := b23
        go_wp2_with fail
        refine (r4same_t (hg7.below d22_23) hg8 D5.out).mono ?_
        rintro e w24 ⟨rfl, b24⟩
        have d0_24 := d0_23.trans (b24.mono d0_23.size)
        have d1_24 := d1_23.trans (b24.mono d1_23.size)
        have d2_24 := d2_23.trans (b24.mono d2_23.size)
        have d3_24 := d3_23.trans (b24.mono d3_23.size)
        have d4_24 := d4_23.trans (b24.mono d4_23.size)
        have d5_24 := d5_23.trans (b24.mono d5_23.size)
        have d6_24 := d6_23.trans (b24.mono d6_23.size)
        have d7_24 := d7_23.trans (b24.mono d7_23.size)
        have d8_24 := d8_23.trans (b24.mono d8_23.size)
        have d9_24 := d9_23.trans (b24.mono d9_23.size)
        have d10_24 := d10_23.trans (b24.mono d10_23.size)
        have d11_24 := d11_23.trans (b24.mono d11_23.size)
        have d12_24 := d12_23.trans (b24.mono d12_23.size)
        have d13_24 := d13_23.trans (b24.mono d13_23.size)
        have d14_24 := d14_23.trans (b24.mono d14_23.size)
        have d15_24 := d15_23.trans (b24.mono d15_23.size)
        have d16_24 := d16_23.trans (b24.mono d16_23.size)
        have d17_24 := d17_23.trans (b24.mono d17_23.size)
        have d18_24 := d18_23.trans (b24.mono d18_23.size)
        have d19_24 := d19_23.trans (b24.mono d19_23.size)
        have d20_24 := d20_23.trans (b24.mono d20_23.size)
        have d21_24 := d21_23.trans (b24.mono d21_23.size)
        have d22_24 := d22_23.trans (b24.mono d22_23.size)
        have d23_24 := b24
        go_wp2_with fail
        refine (wakes4_any _ (hT.below d0_24)).mono ?_
        rintro e w25 ⟨rfl, b25⟩
        have d0_25 := d0_24.trans (b25.mono d0_24.size)
        have d1_25 := d1_24.trans (b25.mono d1_24.size)
        have d2_25 := d2_24.trans (b25.mono d2_24.size)
        have d3_25 := d3_24.trans (b25.mono d3_24.size)
        have d4_25 := d4_24.trans (b25.mono d4_24.size)
        have d5_25 := d5_24.trans (b25.mono d5_24.size)
        have d6_25 := d6_24.trans (b25.mono d6_24.size)
        have d7_25 := d7_24.trans (b25.mono d7_24.size)
        have d8_25 := d8_24.trans (b25.mono d8_24.size)
        have d9_25 := d9_24.trans (b25.mono d9_24.size)
        have d10_25 := d10_24.trans (b25.mono d10_24.size)
        have d11_25 := d11_24.trans (b25.mono d11_24.size)
        have d12_25 := d12_24.trans (b25.mono d12_24.size)
        have d13_25 := d13_24.trans (b25.mono d13_24.size)
        have d14_25 := d14_24.trans (b25.mono d14_24.size)
        have d15_25 := d15_24.trans (b25.mono d15_24.size)
        have d16_25 := d16_24.trans (b25.mono d16_24.size)
        have d17_25 := d17_24.trans (b25.mono d17_24.size)
        have d18_25 := d18_24.trans (b25.mono d18_24.size)
        have d19_25 := d19_24.trans (b25.mono d19_24.size)
        have d20_25 := d20_24.trans (b25.mono d20_24.size)
        have d21_25 := d21_24.trans (b25.mono d21_24.size)
        have d22_25 := d22_24.trans (b25.mono d22_24.size)
        have d23_25 := d23_24.trans (b25.mono d23_24.size)
        have d24_25 := b25
        go_wp2_with fail
        go_ret
        exact ⟨rfl, d0_25⟩
      · rw [hcc] at hcp
        have hc1 : Nat.gcd a k = 1 := eq_of_beq hcc
        have DD := hid (D2.out hc1)
        clear hc1
        clear hcc
        refine (hcp).mono ?_
        rintro e w13 ⟨rfl, b13⟩
        have d0_13 := d0_12.trans (b13.mono d0_12.size)
        have d1_13 := d1_12.trans (b13.mono d1_12.size)
        have d2_13 := d2_12.trans (b13.mono d2_12.size)
        have d3_13 := d3_12.trans (b13.mono d3_12.size)
        have d4_13 := d4_12.trans (b13.mono d4_12.size)
        have d5_13 := d5_12.trans (b13.mono d5_12.size)
        have d6_13 := d6_12.trans (b13.mono d6_12.size)
        have d7_13 := d7_12.trans (b13.mono d7_12.size)
        have d8_13 := d8_12.trans (b13.mono d8_12.size)
        have d9_13 := d9_12.trans (b13.mono d9_12.size)
        have d10_13 := d10_12.trans (b13.mono d10_12.size)
        have d11_13 := d11_12.trans (b13.mono d11_12.size)
        have d12_13 := b13
        go_wp2_with fail
        refine (rmul_v (lb.below d0_13) (lc.below d0_13) (by decide)).mono ?_
        rintro e w14 ⟨vbc2, rfl, hbc2, b14⟩
        have d0_14 := d0_13.trans (b14.mono d0_13.size)
        have d1_14 := d1_13.trans (b14.mono d1_13.size)
        have d2_14 := d2_13.trans (b14.mono d2_13.size)
        have d3_14 := d3_13.trans (b14.mono d3_13.size)
        have d4_14 := d4_13.trans (b14.mono d4_13.size)
        have d5_14 := d5_13.trans (b14.mono d5_13.size)
        have d6_14 := d6_13.trans (b14.mono d6_13.size)
        have d7_14 := d7_13.trans (b14.mono d7_13.size)
        have d8_14 := d8_13.trans (b14.mono d8_13.size)
        have d9_14 := d9_13.trans (b14.mono d9_13.size)
        have d10_14 := d10_13.trans (b14.mono d10_13.size)
        have d11_14 := d11_13.trans (b14.mono d11_13.size)
        have d12_14 := d12_13.trans (b14.mono d12_13.size)
        have d13_14 := b14
        go_wp2_with fail
        refine (gcd_v ((la.below d0_14).mono (by decide)) (hbc2.lv bbc) (by decide) (hT.below d0_14)).mono ?_
        rintro e w15 ⟨vg4, rfl, hg4, b15⟩
        have d0_15 := d0_14.trans (b15.mono d0_14.size)
        have d1_15 := d1_14.trans (b15.mono d1_14.size)
        have d2_15 := d2_14.trans (b15.mono d2_14.size)
        have d3_15 := d3_14.trans (b15.mono d3_14.size)
        have d4_15 := d4_14.trans (b15.mono d4_14.size)
        have d5_15 := d5_14.trans (b15.mono d5_14.size)
        have d6_15 := d6_14.trans (b15.mono d6_14.size)
        have d7_15 := d7_14.trans (b15.mono d7_14.size)
        have d8_15 := d8_14.trans (b15.mono d8_14.size)
        have d9_15 := d9_14.trans (b15.mono d9_14.size)
        have d10_15 := d10_14.trans (b15.mono d10_14.size)
        have d11_15 := d11_14.trans (b15.mono d11_14.size)
        have d12_15 := d12_14.trans (b15.mono d12_14.size)
        have d13_15 := d13_14.trans (b15.mono d13_14.size)
        have d14_15 := b15
        go_wp2_with fail
        refine (r4same_t hg4 (hg.below d1_15) DD.out).mono ?_
        rintro e w16 ⟨rfl, b16⟩
        have d0_16 := d0_15.trans (b16.mono d0_15.size)
        have d1_16 := d1_15.trans (b16.mono d1_15.size)
        have d2_16 := d2_15.trans (b16.mono d2_15.size)
        have d3_16 := d3_15.trans (b16.mono d3_15.size)
        have d4_16 := d4_15.trans (b16.mono d4_15.size)
        have d5_16 := d5_15.trans (b16.mono d5_15.size)
        have d6_16 := d6_15.trans (b16.mono d6_15.size)
        have d7_16 := d7_15.trans (b16.mono d7_15.size)
        have d8_16 := d8_15.trans (b16.mono d8_15.size)
        have d9_16 := d9_15.trans (b16.mono d9_15.size)
        have d10_16 := d10_15.trans (b16.mono d10_15.size)
        have d11_16 := d11_15.trans (b16.mono d11_15.size)
        have d12_16 := d12_15.trans (b16.mono d12_15.size)
        have d13_16 := d13_15.trans (b16.mono d13_15.size)
        have d14_16 := d14_15.trans (b16.mono d14_15.size)
        have d15_16 := b16
        have ad := radd2_v (lb.below d0_16) (la.below d0_16) (by decide) 23
        have bS16 : Below w16.heap.size w16 (w16.alloc (.cells #[.slice A' n' c', .slice A n c] 23)) := (Below.refl _ w16).alloc (Nat.le_refl _) _
        go_wp2_with fail
        have d0_17 := d0_16.trans (bS16.mono d0_16.size)
        have d1_17 := d1_16.trans (bS16.mono d1_16.size)
        have d2_17 := d2_16.trans (bS16.mono d2_16.size)
        have d3_17 := d3_16.trans (bS16.mono d3_16.size)
        have d4_17 := d4_16.trans (bS16.mono d4_16.size)
        have d5_17 := d5_16.trans (bS16.mono d5_16.size)
        have d6_17 := d6_16.trans (bS16.mono d6_16.size)
        have d7_17 := d7_16.trans (bS16.mono d7_16.size)
        have d8_17 := d8_16.trans (bS16.mono d8_16.size)
        have d9_17 := d9_16.trans (bS16.mono d9_16.size)
        have d10_17 := d10_16.trans (bS16.mono d10_16.size)
        have d11_17 := d11_16.trans (bS16.mono d11_16.size)
        have d12_17 := d12_16.trans (bS16.mono d12_16.size)
        have d13_17 := d13_16.trans (bS16.mono d13_16.size)
        have d14_17 := d14_16.trans (bS16.mono d14_16.size)
        have d15_17 := d15_16.trans (bS16.mono d15_16.size)
        have d16_17 := bS16
        refine (ad).mono ?_
        rintro e w18 ⟨vad, rfl, had, b18⟩
        have d0_18 := d0_17.trans (b18.mono d0_17.size)
        have d1_18 := d1_17.trans (b18.mono d1_17.size)
        have d2_18 := d2_17.trans (b18.mono d2_17.size)
        have d3_18 := d3_17.trans (b18.mono d3_17.size)
        have d4_18 := d4_17.trans (b18.mono d4_17.size)
        have d5_18 := d5_17.trans (b18.mono d5_17.size)
        have d6_18 := d6_17.trans (b18.mono d6_17.size)
        have d7_18 := d7_17.trans (b18.mono d7_17.size)
        have d8_18 := d8_17.trans (b18.mono d8_17.size)
        have d9_18 := d9_17.trans (b18.mono d9_17.size)
        have d10_18 := d10_17.trans (b18.mono d10_17.size)
        have d11_18 := d11_17.trans (b18.mono d11_17.size)
        have d12_18 := d12_17.trans (b18.mono d12_17.size)
        have d13_18 := d13_17.trans (b18.mono d13_17.size)
        have d14_18 := d14_17.trans (b18.mono d14_17.size)
        have d15_18 := d15_17.trans (b18.mono d15_17.size)
        have d16_18 := d16_17.trans (b18.mono d16_17.size)
        have d17_18 := b18
        go_wp2_with fail
        refine (gcd_v ((la.below d0_18).mono (by decide)) (had.lv hba7) (by decide) (hT.below d0_18)).mono ?_
        rintro e w19 ⟨vg5, rfl, hg5, b19⟩
        have d0_19 := d0_18.trans (b19.mono d0_18.size)
        have d1_19 := d1_18.trans (b19.mono d1_18.size)
        have d2_19 := d2_18.trans (b19.mono d2_18.size)
        have d3_19 := d3_18.trans (b19.mono d3_18.size)
        have d4_19 := d4_18.trans (b19.mono d4_18.size)
        have d5_19 := d5_18.trans (b19.mono d5_18.size)
        have d6_19 := d6_18.trans (b19.mono d6_18.size)
        have d7_19 := d7_18.trans (b19.mono d7_18.size)
        have d8_19 := d8_18.trans (b19.mono d8_18.size)
        have d9_19 := d9_18.trans (b19.mono d9_18.size)
        have d10_19 := d10_18.trans (b19.mono d10_18.size)
        have d11_19 := d11_18.trans (b19.mono d11_18.size)
        have d12_19 := d12_18.trans (b19.mono d12_18.size)
        have d13_19 := d13_18.trans (b19.mono d13_18.size)
        have d14_19 := d14_18.trans (b19.mono d14_18.size)
        have d15_19 := d15_18.trans (b19.mono d15_18.size)
        have d16_19 := d16_18.trans (b19.mono d16_18.size)
        have d17_19 := d17_18.trans (b19.mono d17_18.size)
        have d18_19 := b19
        go_wp2_with fail
        refine (r4same_t hg5 (hg.below d1_19) D3.out).mono ?_
        rintro e w20 ⟨rfl, b20⟩
        have d0_20 := d0_19.trans (b20.mono d0_19.size)
        have d1_20 := d1_19.trans (b20.mono d1_19.size)
        have d2_20 := d2_19.trans (b20.mono d2_19.size)
        have d3_20 := d3_19.trans (b20.mono d3_19.size)
        have d4_20 := d4_19.trans (b20.mono d4_19.size)
        have d5_20 := d5_19.trans (b20.mono d5_19.size)
        have d6_20 := d6_19.trans (b20.mono d6_19.size)
        have d7_20 := d7_19.trans (b20.mono d7_19.size)
        have d8_20 := d8_19.trans (b20.mono d8_19.size)
        have d9_20 := d9_19.trans (b20.mono d9_19.size)
        have d10_20 := d10_19.trans (b20.mono d10_19.size)
        have d11_20 := d11_19.trans (b20.mono d11_19.size)
        have d12_20 := d12_19.trans (b20.mono d12_19.size)
        have d13_20 := d13_19.trans (b20.mono d13_19.size)
        have d14_20 := d14_19.trans (b20.mono d14_19.size)
        have d15_20 := d15_19.trans (b20.mono d15_19.size)
        have d16_20 := d16_19.trans (b20.mono d16_19.size)
        have d17_20 := d17_19.trans (b20.mono d17_19.size)
        have d18_20 := d18_19.trans (b20.mono d18_19.size)
        have d19_20 := b20
        have ls2 := LSV.two (la.below d0_20) (lb.below d0_20) (by decide) 23
        have bS20 : Below w20.heap.size w20 (w20.alloc (.cells #[.slice A n c, .slice A' n' c'] 23)) := (Below.refl _ w20).alloc (Nat.le_refl _) _
        go_wp2_with fail
        have d0_21 := d0_20.trans (bS20.mono d0_20.size)
        have d1_21 := d1_20.trans (bS20.mono d1_20.size)
        have d2_21 := d2_20.trans (bS20.mono d2_20.size)
        have d3_21 := d3_20.trans (bS20.mono d3_20.size)
        have d4_21 := d4_20.trans (bS20.mono d4_20.size)
        have d5_21 := d5_20.trans (bS20.mono d5_20.size)
        have d6_21 := d6_20.trans (bS20.mono d6_20.size)
        have d7_21 := d7_20.trans (bS20.mono d7_20.size)
        have d8_21 := d8_20.trans (bS20.mono d8_20.size)
        have d9_21 := d9_20.trans (bS20.mono d9_20.size)
        have d10_21 := d10_20.trans (bS20.mono d10_20.size)
        have d11_21 := d11_20.trans (bS20.mono d11_20.size)
        have d12_21 := d12_20.trans (bS20.mono d12_20.size)
        have d13_21 := d13_20.trans (bS20.mono d13_20.size)
        have d14_21 := d14_20.trans (bS20.mono d14_20.size)
        have d15_21 := d15_20.trans (bS20.mono d15_20.size)
        have d16_21 := d16_20.trans (bS20.mono d16_20.size)
        have d17_21 := d17_20.trans (bS20.mono d17_20.size)
        have d18_21 := d18_20.trans (bS20.mono d18_20.size)
        have d19_21 := d19_20.trans (bS20.mono d19_20.size)
        have d20_21 := bS20
        refine (gall_v ls2 (by decide) (by simp) (hT.below d0_21)).mono ?_
        rintro e w22 ⟨vg6, rfl, hg6, b22⟩
        have d0_22 := d0_21.trans (b22.mono d0_21.size)
        have d1_22 := d1_21.trans (b22.mono d1_21.size)
        have d2_22 := d2_21.trans (b22.mono d2_21.size)
        have d3_22 := d3_21.trans (b22.mono d3_21.size)
        have d4_22 := d4_21.trans (b22.mono d4_21.size)
        have d5_22 := d5_21.trans (b22.mono d5_21.size)
        have d6_22 := d6_21.trans (b22.mono d6_21.size)
        have d7_22 := d7_21.trans (b22.mono d7_21.size)
        have d8_22 := d8_21.trans (b22.mono d8_21.size)
        have d9_22 := d9_21.trans (b22.mono d9_21.size)
        have d10_22 := d10_21.trans (b22.mono d10_21.size)
        have d11_22 := d11_21.trans (b22.mono d11_21.size)
        have d12_22 := d12_21.trans (b22.mono d12_21.size)
        have d13_22 := d13_21.trans (b22.mono d13_21.size)
        have d14_22 := d14_21.trans (b22.mono d14_21.size)
        have d15_22 := d15_21.trans (b22.mono d15_21.size)
        have d16_22 := d16_21.trans (b22.mono d16_21.size)
        have d17_22 := d17_21.trans (b22.mono d17_21.size)
        have d18_22 := d18_21.trans (b22.mono d18_21.size)
        have d19_22 := d19_21.trans (b22.mono d19_21.size)
        have d20_22 := d20_21.trans (b22.mono d20_21.size)
        have d21_22 := b22
        go_wp2_with fail
        refine (r4same_t hg6 (hg.below d1_22) D4.out).mono ?_
        rintro e w23 ⟨rfl, b23⟩
        have d0_23 := d0_22.trans (b23.mono d0_22.size)
        have d1_23 := d1_22.trans (b23.mono d1_22.size)
        have d2_23 := d2_22.trans (b23.mono d2_22.size)
        have d3_23 := d3_22.trans (b23.mono d3_22.size)
        have d4_23 := d4_22.trans (b23.mono d4_22.size)
        have d5_23 := d5_22.trans (b23.mono d5_22.size)
        have d6_23 := d6_22.trans (b23.mono d6_22.size)
        have d7_23 := d7_22.trans (b23.mono d7_22.size)
        have d8_23 := d8_22.trans (b23.mono d8_22.size)
        have d9_23 := d9_22.trans (b23.mono d9_22.size)
        have d10_23 := d10_22.trans (b23.mono d10_22.size)
        have d11_23 := d11_22.trans (b23.mono d11_22.size)
        have d12_23 := d12_22.trans (b23.mono d12_22.size)
        have d13_23 := d13_22.trans (b23.mono d13_22.size)
        have d14_23 := d14_22.trans (b23.mono d14_22.size)
        have d15_23 := d15_22.trans (b23.mono d15_22.size)
        have d16_23 := d16_22.trans (b23.mono d16_22.size)
        have d17_23 := d17_22.trans (b23.mono d17_22.size)
        have d18_23 := d18_22.trans (b23.mono d18_22.size)
        have d19_23 := d19_22.trans (b23.mono d19_22.size)
        have d20_23 := d20_22.trans (b23.mono d20_22.size)
        have d21_23 := d21_22.trans (b23.mono d21_22.size)
        have d22_23 := b23
        have ls3 := LSV.three (la.below d0_23) (lb.below d0_23) (lc.below d0_23) (by decide) 23
        have bS23 : Below w23.heap.size w23 (w23.alloc (.cells #[.slice A n c, .slice A' n' c', .slice A'' n'' c''] 23)) := (Below.refl _ w23).alloc (Nat.le_refl _) _
        go_wp2_with fail
        have d0_24 := d0_23.trans (bS23.mono d0_23.size)
        have d1_24 := d1_23.trans (bS23.mono d1_23.size)
        have d2_24 := d2_23.trans (bS23.mono d2_23.size)
        have d3_24 := d3_23.trans (bS23.mono d3_23.size)
        have d4_24 := d4_23.trans (bS23.mono d4_23.size)
        have d5_24 := d5_23.trans (bS23.mono d5_23.size)
        have d6_24 := d6_23.trans (bS23.mono d6_23.size)
        have d7_24 := d7_23.trans (bS23.mono d7_23.size)
        have d8_24 := d8_23.trans (bS23.mono d8_23.size)
        have d9_24 := d9_23.trans (bS23.mono d9_23.size)
        have d10_24 := d10_23.trans (bS23.mono d10_23.size)
        have d11_24 := d11_23.trans (bS23.mono d11_23.size)
        have d12_24 := d12_23.trans (bS23.mono d12_23.size)
        have d13_24 := d13_23.trans (bS23.mono d13_23.size)
        have d14_24 := d14_23.trans (bS23.mono d14_23.size)
        have d15_24 := d15_23.trans (bS23.mono d15_23.size)
        have d16_24 := d16_23.trans (bS23.mono d16_23.size)
        have d17_24 := d17_23.trans (bS23.mono d17_23.size)
        have d18_24 := d18_23.trans (bS23.mono d18_23.size)
        have d19_24 := d19_23.trans (bS23.mono d19_23.size)
        have d20_24 := d20_23.trans (bS23.mono d20_23.size)
        have d21_24 := d21_23.trans (bS23.mono d21_23.size)
        have d22_24 := d22_23.trans (bS23.mono d22_23.size)
        have d23_24 := bS23
        refine (gall_v ls3 (by decide) (by simp) (hT.below d0_24)).mono ?_
        rintro e w25 ⟨vg7, rfl, hg7, b25⟩
        have d0_25 := d0_24.trans (b25.mono d0_24.size)
        have d1_25 := d1_24.trans (b25.mono d1_24.size)
        have d2_25 := d2_24.trans (b25.mono d2_24.size)
        have d3_25 := d3_24.trans (b25.mono d3_24.size)
        have d4_25 := d4_24.trans (b25.mono d4_24.size)
        have d5_25 := d5_24.trans (b25.mono d5_24.size)
        have d6_25 := d6_24.trans (b25.mono d6_24.size)
        have d7_25 := d7_24.trans (b25.mono d7_24.size)
        have d8_25 := d8_24.trans (b25.mono d8_24.size)
        have d9_25 := d9_24.trans (b25.mono d9_24.size)
        have d10_25 := d10_24.trans (b25.mono d10_24.size)
        have d11_25 := d11_24.trans (b25.mono d11_24.size)
        have d12_25 := d12_24.trans (b25.mono d12_24.size)
        have d13_25 := d13_24.trans (b25.mono d13_24.size)
        have d14_25 := d14_24.trans (b25.mono d14_24.size)
        have d15_25 := d15_24.trans (b25.mono d15_24.size)
        have d16_25 := d16_24.trans (b25.mono d16_24.size)
        have d17_25 := d17_24.trans (b25.mono d17_24.size)
        have d18_25 := d18_24.trans (b25.mono d18_24.size)
        have d19_25 := d19_24.trans (b25.mono d19_24.size)
        have d20_25 := d20_24.trans (b25.mono d20_24.size)
        have d21_25 := d21_24.trans (b25.mono d21_24.size)
        have d22_25 := d22_24.trans (b25.mono d22_24.size)
        have d23_25 := d23_24.trans (b25.mono d23_24.size)
        have d24_25 := b25
        go_wp2_with fail
        refine (gcd_v ((hg.below d1_25).lv hgl) (lc.below d0_25) (by decide) (hT.below d0_25)).mono ?_
        rintro e w26 ⟨vg8, rfl, hg8, b26⟩
        have d0_26 := d0_25.trans (b26.mono d0_25.size)
        have d1_26 := d1_25.trans (b26.mono d1_25.size)
        have d2_26 := d2_25.trans (b26.mono d2_25.size)
        have d3_26 := d3_25.trans (b26.mono d3_25.size)
        have d4_26 := d4_25.trans (b26.mono d4_25.size)
        have d5_26 := d5_25.trans (b26.mono d5_25.size)
        have d6_26 := d6_25.trans (b26.mono d6_25.size)
        have d7_26 := d7_25.trans (b26.mono d7_25.size)
        have d8_26 := d8_25.trans (b26.mono d8_25.size)
        have d9_26 := d9_25.trans (b26.mono d9_25.size)
        have d10_26 := d10_25.trans (b26.mono d10_25.size)
        have d11_26 := d11_25.trans (b26.mono d11_25.size)
        have d12_26 := d12_25.trans (b26.mono d12_25.size)
        have d13_26 := d13_25.trans (b26.mono d13_25.size)
        have d14_26 := d14_25.trans (b26.mono d14_25.size)
        have d15_26 := d15_25.trans (b26.mono d15_25.size)
        have d16_26 := d16_25.trans (b26.mono d16_25.size)
        have d17_26 := d17_25.trans (b26.mono d17_25.size)
        have d18_26 := d18_25.trans (b26.mono d18_25.size)
        have d19_26 := d19_25.trans (b26.mono d19_25.size)
        have d20_26 := d20_25.trans (b26.mono d20_25.size)
        have d21_26 := d21_25.trans (b26.mono d21_25.size)
        have d22_26 := d22_25.trans (b26.mono d22_25.size)
        have d23_26 := d23_25.trans (b26.mono d23_25.size)
        have d24_26 := d24_25.trans (b26.mono d24_25.size)
        have d25_26 := b26
        go_wp2_with fail
        refine (r4same_t (hg7.below d25_26) hg8 D5.out).mono ?_
        rintro e w27 ⟨rfl, b27⟩
        have d0_27 := d0_26.trans (b27.mono d0_26.size)
        have d1_27 := d1_26.trans (b27.mono d1_26.size)
        have d2_27 := d2_26.trans (b27.mono d2_26.size)
        have d3_27 := d3_26.trans (b27.mono d3_26.size)
        have d4_27 := d4_26.trans (b27.mono d4_26.size)
        have d5_27 := d5_26.trans (b27.mono d5_26.size)
        have d6_27 := d6_26.trans (b27.mono d6_26.size)
        have d7_27 := d7_26.trans (b27.mono d7_26.size)
        have d8_27 := d8_26.trans (b27.mono d8_26.size)
        have d9_27 := d9_26.trans (b27.mono d9_26.size)
        have d10_27 := d10_26.trans (b27.mono d10_26.size)
        have d11_27 := d11_26.trans (b27.mono d11_26.size)
        have d12_27 := d12_26.trans (b27.mono d12_26.size)
        have d13_27 := d13_26.trans (b27.mono d13_26.size)
        have d14_27 := d14_26.trans (b27.mono d14_26.size)
        have d15_27 := d15_26.trans (b27.mono d15_26.size)
        have d16_27 := d16_26.trans (b27.mono d16_26.size)
        have d17_27 := d17_26.trans (b27.mono d17_26.size)
        have d18_27 := d18_26.trans (b27.mono d18_26.size)
        have d19_27 := d19_26.trans (b27.mono d19_26.size)
        have d20_27 := d20_26.trans (b27.mono d20_26.size)
        have d21_27 := d21_26.trans (b27.mono d21_26.size)
        have d22_27 := d22_26.trans (b27.mono d22_26.size)
        have d23_27 := d23_26.trans (b27.mono d23_26.size)
        have d24_27 := d24_26.trans (b27.mono d24_26.size)
        have d25_27 := d25_26.trans (b27.mono d25_26.size)
        have d26_27 := b27
        go_wp2_with fail
        refine (wakes4_any _ (hT.below d0_27)).mono ?_
        rintro e w28 ⟨rfl, b28⟩
        have d0_28 := d0_27.trans (b28.mono d0_27.size)
        have d1_28 := d1_27.trans (b28.mono d1_27.size)
        have d2_28 := d2_27.trans (b28.mono d2_27.size)
        have d3_28 := d3_27.trans (b28.mono d3_27.size)
        have d4_28 := d4_27.trans (b28.mono d4_27.size)
        have d5_28 := d5_27.trans (b28.mono d5_27.size)
        have d6_28 := d6_27.trans (b28.mono d6_27.size)
        have d7_28 := d7_27.trans (b28.mono d7_27.size)
        have d8_28 := d8_27.trans (b28.mono d8_27.size)
        have d9_28 := d9_27.trans (b28.mono d9_27.size)
        have d10_28 := d10_27.trans (b28.mono d10_27.size)
        have d11_28 := d11_27.trans (b28.mono d11_27.size)
        have d12_28 := d12_27.trans (b28.mono d12_27.size)
        have d13_28 := d13_27.trans (b28.mono d13_27.size)
        have d14_28 := d14_27.trans (b28.mono d14_27.size)
        have d15_28 := d15_27.trans (b28.mono d15_27.size)
        have d16_28 := d16_27.trans (b28.mono d16_27.size)
        have d17_28 := d17_27.trans (b28.mono d17_27.size)
        have d18_28 := d18_27.trans (b28.mono d18_27.size)
        have d19_28 := d19_27.trans (b28.mono d19_27.size)
        have d20_28 := d20_27.trans (b28.mono d20_27.size)
        have d21_28 := d21_27.trans (b28.mono d21_27.size)
        have d22_28 := d22_27.trans (b28.mono d22_27.size)
        have d23_28 := d23_27.trans (b28.mono d23_27.size)
        have d24_28 := d24_27.trans (b28.mono d24_27.size)
        have d25_28 := d25_27.trans (b28.mono d25_27.size)
        have d26_28 := d26_27.trans (b28.mono d26_27.size)
        have d27_28 := b28
        go_wp2_with fail
        go_ret
        exact ⟨rfl, d0_28⟩
  · have hgp : 0 < Nat.gcd a b := Nat.pos_of_ne_zero (fun e => by have := hz.out a b e; omega)
    have HA := hid ha0; clear ha0
    go_enter Tryd.func7, Tryd.ntmps7
    go_wp2_with fail
    refine (gcd_v la lb (by decide) hT).mono ?_
    rintro e w1 ⟨vg, rfl, hg, b1⟩
    have d0_1 := b1
    go_wp2_with fail
    refine (rtrim_v (la.below d0_1) (by decide)).mono ?_
    rintro e w2 ⟨vta, rfl, hta, b2⟩
    have d0_2 := d0_1.trans (b2.mono d0_1.size)
    have d1_2 := b2
    obtain ⟨Ata, nta, cta, rfl, zta, pta, ita, jta, hta⟩ := hta.open
    have qta := zta HA.out; subst qta; clear zta pta
    go_wp2_with fail
    refine (rtrim_v (lb.below d0_2) (by decide)).mono ?_
    rintro e w3 ⟨vtb, rfl, htb, b3⟩
    have d0_3 := d0_2.trans (b3.mono d0_2.size)
    have d1_3 := d1_2.trans (b3.mono d1_2.size)
    have d2_3 := b3
    obtain ⟨Atb, ntb, ctb, rfl, ztb, ptb, itb, jtb, htb⟩ := htb.open
    have qtb := ptb (by omega); clear ztb ptb
    go_wp2_with fail
    refine (rdiv_v (la.below d0_3) ((hg.below d1_3).lv hgl) (by decide) hgp).mono ?_
    rintro e w4 ⟨vq, vr, rfl, hq, hr, b4⟩
    have d0_4 := d0_3.trans (b4.mono d0_3.size)
    have d1_4 := d1_3.trans (b4.mono d1_3.size)
    have d2_4 := d2_3.trans (b4.mono d2_3.size)
    have d3_4 := b4
    obtain ⟨Ar, nr, cr, rfl, zr, pr, ir, jr, hr⟩ := hr.open
    have rr := zr (D7.out); subst rr; clear zr pr
    go_wp2_with fail
    refine (rdiv_v (lb.below d0_4) ((hg.below d1_4).lv hgl) (by decide) hgp).mono ?_
    rintro e w5 ⟨vq2, vs, rfl, hq2, hs, b5⟩
    have d0_5 := d0_4.trans (b5.mono d0_4.size)
    have d1_5 := d1_4.trans (b5.mono d1_4.size)
    have d2_5 := d2_4.trans (b5.mono d2_4.size)
    have d3_5 := d3_4.trans (b5.mono d3_4.size)
    have d4_5 := b5
    obtain ⟨As, ns, cs, rfl, zs, ps, is, js, hs⟩ := hs.open
    have rs := zs (D8.out); subst rs; clear zs ps
    go_wp2_with fail
    refine (gcd_v (lb.below d0_5) (la.below d0_5) (by decide) (hT.below d0_5)).mono ?_
    rintro e w6 ⟨vg2, rfl, hg2, b6⟩
    have d0_6 := d0_5.trans (b6.mono d0_5.size)
    have d1_6 := d1_5.trans (b6.mono d1_5.size)
    have d2_6 := d2_5.trans (b6.mono d2_5.size)
    have d3_6 := d3_5.trans (b6.mono d3_5.size)
    have d4_6 := d4_5.trans (b6.mono d4_5.size)
    have d5_6 := b6
    go_wp2_with fail
    refine (r4same_t (hg.below d1_6) hg2 D6.out).mono ?_
    rintro e w7 ⟨rfl, b7⟩
    have d0_7 := d0_6.trans (b7.mono d0_6.size)
    have d1_7 := d1_6.trans (b7.mono d1_6.size)
    have d2_7 := d2_6.trans (b7.mono d2_6.size)
    have d3_7 := d3_6.trans (b7.mono d3_6.size)
    have d4_7 := d4_6.trans (b7.mono d4_6.size)
    have d5_7 := d5_6.trans (b7.mono d5_6.size)
    have d6_7 := b7
    go_wp2_with fail
    refine (rtrim_v (lc.below d0_7) (by decide)).mono ?_
    rintro e w8 ⟨vtc, rfl, htc, b8⟩
    have d0_8 := d0_7.trans (b8.mono d0_7.size)
    have d1_8 := d1_7.trans (b8.mono d1_7.size)
    have d2_8 := d2_7.trans (b8.mono d2_7.size)
    have d3_8 := d3_7.trans (b8.mono d3_7.size)
    have d4_8 := d4_7.trans (b8.mono d4_7.size)
    have d5_8 := d5_7.trans (b8.mono d5_7.size)
    have d6_8 := d6_7.trans (b8.mono d6_7.size)
    have d7_8 := b8
    obtain ⟨Atc, ntc, ctc, rfl, ztc, ptc, itc, jtc, htc⟩ := htc.open
    rcases Nat.eq_zero_or_pos k with hk0 | hk0
    · have HK := hid hk0; clear hk0
      have qtc := ztc HK.out; subst qtc; clear ztc ptc
      go_wp2_with fail
      have hcp := coprime_v (la.below d0_8) (lc.below d0_8) (by decide) (hT.below d0_8)
      cases hcc : (Nat.gcd a k == 1)
      · rw [hcc] at hcp
        clear hcc
        refine (hcp).mono ?_
        rintro e w9 ⟨rfl, b9⟩
        have d0_9 := d0_8.trans (b9.mono d0_8.size)
        have d1_9 := d1_8.trans (b9.mono d1_8.size)
        have d2_9 := d2_8.trans (b9.mono d2_8.size)
        have d3_9 := d3_8.trans (b9.mono d3_8.size)
        have d4_9 := d4_8.trans (b9.mono d4_8.size)
        have d5_9 := d5_8.trans (b9.mono d5_8.size)
        have d6_9 := d6_8.trans (b9.mono d6_8.size)
        have d7_9 := d7_8.trans (b9.mono d7_8.size)
        have d8_9 := b9
        have ad := radd2_v (lb.below d0_9) (la.below d0_9) (by decide) 23
        have bS9 : Below w9.heap.size w9 (w9.alloc (.cells #[.slice A' n' c', .slice A n c] 23)) := (Below.refl _ w9).alloc (Nat.le_refl _) _
        go_wp2_with fail
        have d0_10 := d0_9.trans (bS9.mono d0_9.size)
        have d1_10 := d1_9.trans (bS9.mono d1_9.size)
        have d2_10 := d2_9.trans (bS9.mono d2_9.size)
        have d3_10 := d3_9.trans (bS9.mono d3_9.size)
        have d4_10 := d4_9.trans (bS9.mono d4_9.size)
        have d5_10 := d5_9.trans (bS9.mono d5_9.size)
        have d6_10 := d6_9.trans (bS9.mono d6_9.size)
        have d7_10 := d7_9.trans (bS9.mono d7_9.size)
        have d8_10 := d8_9.trans (bS9.mono d8_9.size)
        have d9_10 := bS9
        refine (ad).mono ?_
        rintro e w11 ⟨vad, rfl, had, b11⟩
        have d0_11 := d0_10.trans (b11.mono d0_10.size)
        have d1_11 := d1_10.trans (b11.mono d1_10.size)
        have d2_11 := d2_10.trans (b11.mono d2_10.size)
        have d3_11 := d3_10.trans (b11.mono d3_10.size)
        have d4_11 := d4_10.trans (b11.mono d4_10.size)
        have d5_11 := d5_10.trans (b11.mono d5_10.size)
        have d6_11 := d6_10.trans (b11.mono d6_10.size)
        have d7_11 := d7_10.trans (b11.mono d7_10.size)
        have d8_11 := d8_10.trans (b11.mono d8_10.size)
        have d9_11 := d9_10.trans (b11.mono d9_10.size)
        have d10_11 := b11
        go_wp2_with fail
        refine (gcd_v ((la.below d0_11).mono (by decide)) (had.lv hba7) (by decide) (hT.below d0_11)).mono ?_
        rintro e w12 ⟨vg5, rfl, hg5, b12⟩
        have d0_12 := d0_11.trans (b12.mono d0_11.size)
        have d1_12 := d1_11.trans (b12.mono d1_11.size)
        have d2_12 := d2_11.trans (b12.mono d2_11.size)
        have d3_12 := d3_11.trans (b12.mono d3_11.size)
        have d4_12 := d4_11.trans (b12.mono d4_11.size)
        have d5_12 := d5_11.trans (b12.mono d5_11.size)
        have d6_12 := d6_11.trans (b12.mono d6_11.size)
        have d7_12 := d7_11.trans (b12.mono d7_11.size)
        have d8_12 := d8_11.trans (b12.mono d8_11.size)
        have d9_12 := d9_11.trans (b12.mono d9_11.size)
        have d10_12 := d10_11.trans (b12.mono d10_11.size)
        have d11_12 := b12
        go_wp2_with fail
        refine (r4same_t hg5 (hg.below d1_12) D3.out).mono ?_
        rintro e w13 ⟨rfl, b13⟩
        have d0_13 := d0_12.trans (b13.mono d0_12.size)
        have d1_13 := d1_12.trans (b13.mono d1_12.size)
        have d2_13 := d2_12.trans (b13.mono d2_12.size)
        have d3_13 := d3_12.trans (b13.mono d3_12.size)
        have d4_13 := d4_12.trans (b13.mono d4_12.size)
        have d5_13 := d5_12.trans (b13.mono d5_12.size)
        have d6_13 := d6_12.trans (b13.mono d6_12.size)
        have d7_13 := d7_12.trans (b13.mono d7_12.size)
        have d8_13 := d8_12.trans (b13.mono d8_12.size)
        have d9_13 := d9_12.trans (b13.mono d9_12.size)
        have d10_13 := d10_12.trans (b13.mono d10_12.size)
        have d11_13 := d11_12.trans (b13.mono d11_12.size)
        have d12_13 := b13
        have ls2 := LSV.two (la.below d0_13) (lb.below d0_13) (by decide) 23
        have bS13 : Below w13.heap.size w13 (w13.alloc (.cells #[.slice A n c, .slice A' n' c'] 23)) := (Below.refl _ w13).alloc (Nat.le_refl _) _
        go_wp2_with fail
        have d0_14 := d0_13.trans (bS13.mono d0_13.size)
        have d1_14 := d1_13.trans (bS13.mono d1_13.size)
        have d2_14 := d2_13.trans (bS13.mono d2_13.size)
        have d3_14 := d3_13.trans (bS13.mono d3_13.size)
        have d4_14 := d4_13.trans (bS13.mono d4_13.size)
        have d5_14 := d5_13.trans (bS13.mono d5_13.size)
        have d6_14 := d6_13.trans (bS13.mono d6_13.size)
        have d7_14 := d7_13.trans (bS13.mono d7_13.size)
        have d8_14 := d8_13.trans (bS13.mono d8_13.size)
        have d9_14 := d9_13.trans (bS13.mono d9_13.size)
        have d10_14 := d10_13.trans (bS13.mono d10_13.size)
        have d11_14 := d11_13.trans (bS13.mono d11_13.size)
        have d12_14 := d12_13.trans (bS13.mono d12_13.size)
        have d13_14 := bS13
        refine (gall_v ls2 (by decide) (by simp) (hT.below d0_14)).mono ?_
        rintro e w15 ⟨vg6, rfl, hg6, b15⟩
        have d0_15 := d0_14.trans (b15.mono d0_14.size)
        have d1_15 := d1_14.trans (b15.mono d1_14.size)
        have d2_15 := d2_14.trans (b15.mono d2_14.size)
        have d3_15 := d3_14.trans (b15.mono d3_14.size)
        have d4_15 := d4_14.trans (b15.mono d4_14.size)
        have d5_15 := d5_14.trans (b15.mono d5_14.size)
        have d6_15 := d6_14.trans (b15.mono d6_14.size)
        have d7_15 := d7_14.trans (b15.mono d7_14.size)
        have d8_15 := d8_14.trans (b15.mono d8_14.size)
        have d9_15 := d9_14.trans (b15.mono d9_14.size)
        have d10_15 := d10_14.trans (b15.mono d10_14.size)
        have d11_15 := d11_14.trans (b15.mono d11_14.size)
        have d12_15 := d12_14.trans (b15.mono d12_14.size)
        have d13_15 := d13_14.trans (b15.mono d13_14.size)
        have d14_15 := b15
        go_wp2_with fail
        refine (r4same_t hg6 (hg.below d1_15) D4.out).mono ?_
        rintro e w16 ⟨rfl, b16⟩
        have d0_16 := d0_15.trans (b16.mono d0_15.size)
        have d1_16 := d1_15.trans (b16.mono d1_15.size)
        have d2_16 := d2_15.trans (b16.mono d2_15.size)
        have d3_16 := d3_15.trans (b16.mono d3_15.size)
        have d4_16 := d4_15.trans (b16.mono d4_15.size)
        have d5_16 := d5_15.trans (b16.mono d5_15.size)
        have d6_16 := d6_15.trans (b16.mono d6_15.size)
        have d7_16 := d7_15.trans (b16.mono d7_15.size)
        have d8_16 := d8_15.trans (b16.mono d8_15.size)
        have d9_16 := d9_15.trans (b16.mono d9_15.size)
        have d10_16 := d10_15.trans (b16.mono d10_15.size)
        have d11_16 := d11_15.trans (b16.mono d11_15.size)
        have d12_16 := d12_15.trans (b16.mono d12_15.size)
        have d13_16 := d13_15.trans (b16.mono d13_15.size)
        have d14_16 := d14_15.trans (b16.mono d14_15.size)
        have d15_16 := b16
        have ls3 := LSV.three (la.below d0_16) (lb.below d0_16) (lc.below d0_16) (by decide) 23
        have bS16 : Below w16.heap.size w16 (w16.alloc (.cells #[.slice A n c, .slice A' n' c', .slice A'' n'' c''] 23)) := (Below.refl _ w16).alloc (Nat.le_refl _) _
        go_wp2_with fail
        have d0_17 := d0_16.trans (bS16.mono d0_16.size)
        have d1_17 := d1_16.trans (bS16.mono d1_16.size)
        have d2_17 := d2_16.trans (bS16.mono d2_16.size)
        have d3_17 := d3_16.trans (bS16.mono d3_16.size)
        have d4_17 := d4_16.trans (bS16.mono d4_16.size)
        have d5_17 := d5_16.trans (bS16.mono d5_16.size)
        have d6_17 := d6_16.trans (bS16.mono d6_16.size)
        have d7_17 := d7_16.trans (bS16.mono d7_16.size)
        have d8_17 := d8_16.trans (bS16.mono d8_16.size)
        have d9_17 := d9_16.trans (bS16.mono d9_16.size)
        have d10_17 := d10_16.trans (bS16.mono d10_16.size)
        have d11_17 := d11_16.trans (bS16.mono d11_16.size)
        have d12_17 := d12_16.trans (bS16.mono d12_16.size)
        have d13_17 := d13_16.trans (bS16.mono d13_16.size)
        have d14_17 := d14_16.trans (bS16.mono d14_16.size)
        have d15_17 := d15_16.trans (bS16.mono d15_16.size)
        have d16_17 := bS16
        refine (gall_v ls3 (by decide) (by simp) (hT.below d0_17)).mono ?_
        rintro e w18 ⟨vg7, rfl, hg7, b18⟩
        have d0_18 := d0_17.trans (b18.mono d0_17.size)
        have d1_18 := d1_17.trans (b18.mono d1_17.size)
        have d2_18 := d2_17.trans (b18.mono d2_17.size)
        have d3_18 := d3_17.trans (b18.mono d3_17.size)
        have d4_18 := d4_17.trans (b18.mono d4_17.size)
        have d5_18 := d5_17.trans (b18.mono d5_17.size)
        have d6_18 := d6_17.trans (b18.mono d6_17.size)
        have d7_18 := d7_17.trans (b18.mono d7_17.size)
        have d8_18 := d8_17.trans (b18.mono d8_17.size)
        have d9_18 := d9_17.trans (b18.mono d9_17.size)
        have d10_18 := d10_17.trans (b18.mono d10_17.size)
        have d11_18 := d11_17.trans (b18.mono d11_17.size)
        have d12_18 := d12_17.trans (b18.mono d12_17.size)
        have d13_18 := d13_17.trans (b18.mono d13_17.size)
        have d14_18 := d14_17.trans (b18.mono d14_17.size)
        have d15_18 := d15_17.trans (b18.mono d15_17.size)
        have d16_18 := d16_17.trans (b18.mono d16_17.size)
        have d17_18 := b18
        go_wp2_with fail
        refine (gcd_v ((hg.below d1_18).lv hgl) (lc.below d0_18) (by decide) (hT.below d0_18)).mono ?_
        rintro e w19 ⟨vg8, rfl, hg8, b19⟩
        have d0_19 := d0_18.trans (b19.mono d0_18.size)
        have d1_19 := d1_18.trans (b19.mono d1_18.size)
        have d2_19 := d2_18.trans (b19.mono d2_18.size)
        have d3_19 := d3_18.trans (b19.mono d3_18.size)
        have d4_19 := d4_18.trans (b19.mono d4_18.size)
        have d5_19 := d5_18.trans (b19.mono d5_18.size)
        have d6_19 := d6_18.trans (b19.mono d6_18.size)
        have d7_19 := d7_18.trans (b19.mono d7_18.size)
        have d8_19 := d8_18.trans (b19.mono d8_18.size)
        have d9_19 := d9_18.trans (b19.mono d9_18.size)
        have d10_19 := d10_18.trans (b19.mono d10_18.size)
        have d11_19 := d11_18.trans (b19.mono d11_18.size)
        have d12_19 := d12_18.trans (b19.mono d12_18.size)
        have d13_19 := d13_18.trans (b19.mono d13_18.size)
        have d14_19 := d14_18.trans (b19.mono d14_18.size)
        have d15_19 := d15_18.trans (b19.mono d15_18.size)
        have d16_19 := d16_18.trans (b19.mono d16_18.size)
        have d17_19 := d17_18.trans (b19.mono d17_18.size)
        have d18_19 := b19
        go_wp2_with fail
        refine (r4same_t (hg7.below d18_19) hg8 D5.out).mono ?_
        rintro e w20 ⟨rfl, b20⟩
        have d0_20 := d0_19.trans (b20.mono d0_19.size)
        have d1_20 := d1_19.trans (b20.mono d1_19.size)
        have d2_20 := d2_19.trans (b20.mono d2_19.size)
        have d3_20 := d3_19.trans (b20.mono d3_19.size)
        have d4_20 := d4_19.trans (b20.mono d4_19.size)
        have d5_20 := d5_19.trans (b20.mono d5_19.size)
        have d6_20 := d6_19.trans (b20.mono d6_19.size)
        have d7_20 := d7_19.trans (b20.mono d7_19.size)
        have d8_20 := d8_19.trans (b20.mono d8_19.size)
        have d9_20 := d9_19.trans (b20.mono d9_19.size)
        have d10_20 := d10_19.trans (b20.mono d10_19.size)
        have d11_20 := d11_19.trans (b20.mono d11_19.size)
        have d12_20 := d12_19.trans (b20.mono d12_19.size)
        have d13_20 := d13_19.trans (b20.mono d13_19.size)
        have d14_20 := d14_19.trans (b20.mono d14_19.size)
        have d15_20 := d15_19.trans (b20.mono d15_19.size)
        have d16_20 := d16_19.trans (b20.mono d16_19.size)
        have d17_20 := d17_19.trans (b20.mono d17_19.size)
        have d18_20 := d18_19.trans (b20.mono d18_19.size)
        have d19_20 := b20
        go_wp2_with fail
        refine (wakes4_any _ (hT.below d0_20)).mono ?_
        rintro e w21 ⟨rfl, b21⟩
        have d0_21 := d0_20.trans (b21.mono d0_20.size)
        have d1_21 := d1_20.trans (b21.mono d1_20.size)
        have d2_21 := d2_20.trans (b21.mono d2_20.size)
        have d3_21 := d3_20.trans (b21.mono d3_20.size)
        have d4_21 := d4_20.trans (b21.mono d4_20.size)
        have d5_21 := d5_20.trans (b21.mono d5_20.size)
        have d6_21 := d6_20.trans (b21.mono d6_20.size)
        have d7_21 := d7_20.trans (b21.mono d7_20.size)
        have d8_21 := d8_20.trans (b21.mono d8_20.size)
        have d9_21 := d9_20.trans (b21.mono d9_20.size)
        have d10_21 := d10_20.trans (b21.mono d10_20.size)
        have d11_21 := d11_20.trans (b21.mono d11_20.size)
        have d12_21 := d12_20.trans (b21.mono d12_20.size)
        have d13_21 := d13_20.trans (b21.mono d13_20.size)
        have d14_21 := d14_20.trans (b21.mono d14_20.size)
        have d15_21 := d15_20.trans (b21.mono d15_20.size)
        have d16_21 := d16_20.trans (b21.mono d16_20.size)
        have d17_21 := d17_20.trans (b21.mono d17_20.size)
        have d18_21 := d18_20.trans (b21.mono d18_20.size)
        have d19_21 := d19_20.trans (b21.mono d19_20.size)
        have d20_21 := b21
        go_wp2_with fail
        go_ret
        exact ⟨rfl, d0_21⟩
      · rw [hcc] at hcp
        have hc1 : Nat.gcd a k = 1 := eq_of_beq hcc
        have DD := hid (D2.out hc1)
        clear hc1
        clear hcc
        refine (hcp).mono ?_
        rintro e w9 ⟨rfl, b9⟩
        have d0_9 := d0_8.trans (b9.mono d0_8.size)
        have d1_9 := d1_8.trans (b9.mono d1_8.size)
        have d2_9 := d2_8.trans (b9.mono d2_8.size)
        have d3_9 := d3_8.trans (b9.mono d3_8.size)
        have d4_9 := d4_8.trans (b9.mono d4_8.size)
        have d5_9 := d5_8.trans (b9.mono d5_8.size)
        have d6_9 := d6_8.trans (b9.mono d6_8.size)
        have d7_9 := d7_8.trans (b9.mono d7_8.size)
        have d8_9 := b9
        go_wp2_with fail
        refine (rmul_v (lb.below d0_9) (lc.below d0_9) (by decide)).mono ?_
        rintro e w10 ⟨vbc2, rfl, hbc2, b10⟩
        have d0_10 := d0_9.trans (b10.mono d0_9.size)
        have d1_10 := d1_9.trans (b10.mono d1_9.size)
        have d2_10 := d2_9.trans (b10.mono d2_9.size)
        have d3_10 := d3_9.trans (b10.mono d3_9.size)
        have d4_10 := d4_9.trans (b10.mono d4_9.size)
        have d5_10 := d5_9.trans (b10.mono d5_9.size)
        have d6_10 := d6_9.trans (b10.mono d6_9.size)
        have d7_10 := d7_9.trans (b10.mono d7_9.size)
        have d8_10 := d8_9.trans (b10.mono d8_9.size)
        have d9_10 := b10
        go_wp2_with fail
        refine (gcd_v ((la.below d0_10).mono (by decide)) (hbc2.lv bbc) (by decide) (hT.below d0_10)).mono ?_
        rintro e w11 ⟨vg4, rfl, hg4, b11⟩
        have d0_11 := d0_10.trans (b11.mono d0_10.size)
        have d1_11 := d1_10.trans (b11.mono d1_10.size)
        have d2_11 := d2_10.trans (b11.mono d2_10.size)
        have d3_11 := d3_10.trans (b11.mono d3_10.size)
        have d4_11 := d4_10.trans (b11.mono d4_10.size)
        have d5_11 := d5_10.trans (b11.mono d5_10.size)
        have d6_11 := d6_10.trans (b11.mono d6_10.size)
        have d7_11 := d7_10.trans (b11.mono d7_10.size)
        have d8_11 := d8_10.trans (b11.mono d8_10.size)
        have d9_11 := d9_10.trans (b11.mono d9_10.size)
        have d10_11 := b11
        go_wp2_with fail
        refine (r4same_t hg4 (hg.below d1_11) DD.out).mono ?_
        rintro e w12 ⟨rfl, b12⟩
        have d0_12 := d0_11.trans (b12.mono d0_11.size)
        have d1_12 := d1_11.trans (b12.mono d1_11.size)
        have d2_12 := d2_11.trans (b12.mono d2_11.size)
        have d3_12 := d3_11.trans (b12.mono d3_11.size)
        have d4_12 := d4_11.trans (b12.mono d4_11.size)
        have d5_12 := d5_11.trans (b12.mono d5_11.size)
        have d6_12 := d6_11.trans (b12.mono d6_11.size)
        have d7_12 := d7_11.trans (b12.mono d7_11.size)
        have d8_12 := d8_11.trans (b12.mono d8_11.size)
        have d9_12 := d9_11.trans (b12.mono d9_11.size)
        have d10_12 := d10_11.trans (b12.mono d10_11.size)
        have d11_12 := b12
        have ad := radd2_v (lb.below d0_12) (la.below d0_12) (by decide) 23
        have bS12 : Below w12.heap.size w12 (w12.alloc (.cells #[.slice A' n' c', .slice A n c] 23)) := (Below.refl _ w12).alloc (Nat.le_refl _) _
        go_wp2_with fail
        have d0_13 := d0_12.trans (bS12.mono d0_12.size)
        have d1_13 := d1_12.trans (bS12.mono d1_12.size)
        have d2_13 := d2_12.trans (bS12.mono d2_12.size)
        have d3_13 := d3_12.trans (bS12.mono d3_12.size)
        have d4_13 := d4_12.trans (bS12.mono d4_12.size)
        have d5_13 := d5_12.trans (bS12.mono d5_12.size)
        have d6_13 := d6_12.trans (bS12.mono d6_12.size)
        have d7_13 := d7_12.trans (bS12.mono d7_12.size)
        have d8_13 := d8_12.trans (bS12.mono d8_12.size)
        have d9_13 := d9_12.trans (bS12.mono d9_12.size)
        have d10_13 := d10_12.trans (bS12.mono d10_12.size)
        have d11_13 := d11_12.trans (bS12.mono d11_12.size)
        have d12_13 := bS12
        refine (ad).mono ?_
        rintro e w14 ⟨vad, rfl, had, b14⟩
        have d0_14 := d0_13.trans (b14.mono d0_13.size)
        have d1_14 := d1_13.trans (b14.mono d1_13.size)
        have d2_14 := d2_13.trans (b14.mono d2_13.size)
        have d3_14 := d3_13.trans (b14.mono d3_13.size)
        have d4_14 := d4_13.trans (b14.mono d4_13.size)
        have d5_14 := d5_13.trans (b14.mono d5_13.size)
        have d6_14 := d6_13.trans (b14.mono d6_13.size)
        have d7_14 := d7_13.trans (b14.mono d7_13.size)
        have d8_14 := d8_13.trans (b14.mono d8_13.size)
        have d9_14 := d9_13.trans (b14.mono d9_13.size)
        have d10_14 := d10_13.trans (b14.mono d10_13.size)
        have d11_14 := d11_13.trans (b14.mono d11_13.size)
        have d12_14 := d12_13.trans (b14.mono d12_13.size)
        have d13_14 := b14
        go_wp2_with fail
        refine (gcd_v ((la.below d0_14).mono (by decide)) (had.lv hba7) (by decide) (hT.below d0_14)).mono ?_
        rintro e w15 ⟨vg5, rfl, hg5, b15⟩
        have d0_15 := d0_14.trans (b15.mono d0_14.size)
        have d1_15 := d1_14.trans (b15.mono d1_14.size)
        have d2_15 := d2_14.trans (b15.mono d2_14.size)
        have d3_15 := d3_14.trans (b15.mono d3_14.size)
        have d4_15 := d4_14.trans (b15.mono d4_14.size)
        have d5_15 := d5_14.trans (b15.mono d5_14.size)
        have d6_15 := d6_14.trans (b15.mono d6_14.size)
        have d7_15 := d7_14.trans (b15.mono d7_14.size)
        have d8_15 := d8_14.trans (b15.mono d8_14.size)
        have d9_15 := d9_14.trans (b15.mono d9_14.size)
        have d10_15 := d10_14.trans (b15.mono d10_14.size)
        have d11_15 := d11_14.trans (b15.mono d11_14.size)
        have d12_15 := d12_14.trans (b15.mono d12_14.size)
        have d13_15 := d13_14.trans (b15.mono d13_14.size)
        have d14_15 := b15
        go_wp2_with fail
        refine (r4same_t hg5 (hg.below d1_15) D3.out).mono ?_
        rintro e w16 ⟨rfl, b16⟩
        have d0_16 := d0_15.trans (b16.mono d0_15.size)
        have d1_16 := d1_15.trans (b16.mono d1_15.size)
        have d2_16 := d2_15.trans (b16.mono d2_15.size)
        have d3_16 := d3_15.trans (b16.mono d3_15.size)
        have d4_16 := d4_15.trans (b16.mono d4_15.size)
        have d5_16 := d5_15.trans (b16.mono d5_15.size)
        have d6_16 := d6_15.trans (b16.mono d6_15.size)
        have d7_16 := d7_15.trans (b16.mono d7_15.size)
        have d8_16 := d8_15.trans (b16.mono d8_15.size)
        have d9_16 := d9_15.trans (b16.mono d9_15.size)
        have d10_16 := d10_15.trans (b16.mono d10_15.size)
        have d11_16 := d11_15.trans (b16.mono d11_15.size)
        have d12_16 := d12_15.trans (b16.mono d12_15.size)
        have d13_16 := d13_15.trans (b16.mono d13_15.size)
        have d14_16 := d14_15.trans (b16.mono d14_15.size)
        have d15_16 := b16
        have ls2 := LSV.two (la.below d0_16) (lb.below d0_16) (by decide) 23
        have bS16 : Below w16.heap.size w16 (w16.alloc (.cells #[.slice A n c, .slice A' n' c'] 23)) := (Below.refl _ w16).alloc (Nat.le_refl _) _
        go_wp2_with fail
        have d0_17 := d0_16.trans (bS16.mono d0_16.size)
        have d1_17 := d1_16.trans (bS16.mono d1_16.size)
        have d2_17 := d2_16.trans (bS16.mono d2_16.size)
        have d3_17 := d3_16.trans (bS16.mono d3_16.size)
        have d4_17 := d4_16.trans (bS16.mono d4_16.size)
        have d5_17 := d5_16.trans (bS16.mono d5_16.size)
        have d6_17 := d6_16.trans (bS16.mono d6_16.size)
        have d7_17 := d7_16.trans (bS16.mono d7_16.size)
        have d8_17 := d8_16.trans (bS16.mono d8_16.size)
        have d9_17 := d9_16.trans (bS16.mono d9_16.size)
        have d10_17 := d10_16.trans (bS16.mono d10_16.size)
        have d11_17 := d11_16.trans (bS16.mono d11_16.size)
        have d12_17 := d12_16.trans (bS16.mono d12_16.size)
        have d13_17 := d13_16.trans (bS16.mono d13_16.size)
        have d14_17 := d14_16.trans (bS16.mono d14_16.size)
        have d15_17 := d15_16.trans (bS16.mono d15_16.size)
        have d16_17 := bS16
        refine (gall_v ls2 (by decide) (by simp) (hT.below d0_17)).mono ?_
        rintro e w18 ⟨vg6, rfl, hg6, b18⟩
        have d0_18 := d0_17.trans (b18.mono d0_17.size)
        have d1_18 := d1_17.trans (b18.mono d1_17.size)
        have d2_18 := d2_17.trans (b18.mono d2_17.size)
        have d3_18 := d3_17.trans (b18.mono d3_17.size)
        have d4_18 := d4_17.trans (b18.mono d4_17.size)
        have d5_18 := d5_17.trans (b18.mono d5_17.size)
        have d6_18 := d6_17.trans (b18.mono d6_17.size)
        have d7_18 := d7_17.trans (b18.mono d7_17.size)
        have d8_18 := d8_17.trans (b18.mono d8_17.size)
        have d9_18 := d9_17.trans (b18.mono d9_17.size)
        have d10_18 := d10_17.trans (b18.mono d10_17.size)
        have d11_18 := d11_17.trans (b18.mono d11_17.size)
        have d12_18 := d12_17.trans (b18.mono d12_17.size)
        have d13_18 := d13_17.trans (b18.mono d13_17.size)
        have d14_18 := d14_17.trans (b18.mono d14_17.size)
        have d15_18 := d15_17.trans (b18.mono d15_17.size)
        have d16_18 := d16_17.trans (b18.mono d16_17.size)
        have d17_18 := b18
        go_wp2_with fail
        refine (r4same_t hg6 (hg.below d1_18) D4.out).mono ?_
        rintro e w19 ⟨rfl, b19⟩
        have d0_19 := d0_18.trans (b19.mono d0_18.size)
        have d1_19 := d1_18.trans (b19.mono d1_18.size)
        have d2_19 := d2_18.trans (b19.mono d2_18.size)
        have d3_19 := d3_18.trans (b19.mono d3_18.size)
        have d4_19 := d4_18.trans (b19.mono d4_18.size)
        have d5_19 := d5_18.trans (b19.mono d5_18.size)
        have d6_19 := d6_18.trans (b19.mono d6_18.size)
        have d7_19 := d7_18.trans (b19.mono d7_18.size)
        have d8_19 := d8_18.trans (b19.mono d8_18.size)
        have d9_19 := d9_18.trans (b19.mono d9_18.size)
        have d10_19 := d10_18.trans (b19.mono d10_18.size)
        have d11_19 := d11_18.trans (b19.mono d11_18.size)
        have d12_19 := d12_18.trans (b19.mono d12_18.size)
        have d13_19 := d13_18.trans (b19.mono d13_18.size)
        have d14_19 := d14_18.trans (b19.mono d14_18.size)
        have d15_19 := d15_18.trans (b19.mono d15_18.size)
        have d16_19 := d16_18.trans (b19.mono d16_18.size)
        have d17_19 := d17_18.trans (b19.mono d17_18.size)
        have d18_19 := b19
        have ls3 := LSV.three (la.below d0_19) (lb.below d0_19) (lc.below d0_19) (by decide) 23
        have bS19 : Below w19.heap.size w19 (w19.alloc (.cells #[.slice A n c, .slice A' n' c', .slice A'' n'' c''] 23)) := (Below.refl _ w19).alloc (Nat.le_refl _) _
        go_wp2_with fail
        have d0_20 := d0_19.trans (bS19.mono d0_19.size)
        have d1_20 := d1_19.trans (bS19.mono d1_19.size)
        have d2_20 := d2_19.trans (bS19.mono d2_19.size)
        have d3_20 := d3_19.trans (bS19.mono d3_19.size)
        have d4_20 := d4_19.trans (bS19.mono d4_19.size)
        have d5_20 := d5_19.trans (bS19.mono d5_19.size)
        have d6_20 := d6_19.trans (bS19.mono d6_19.size)
        have d7_20 := d7_19.trans (bS19.mono d7_19.size)
        have d8_20 := d8_19.trans (bS19.mono d8_19.size)
        have d9_20 := d9_19.trans (bS19.mono d9_19.size)
        have d10_20 := d10_19.trans (bS19.mono d10_19.size)
        have d11_20 := d11_19.trans (bS19.mono d11_19.size)
        have d12_20 := d12_19.trans (bS19.mono d12_19.size)
        have d13_20 := d13_19.trans (bS19.mono d13_19.size)
        have d14_20 := d14_19.trans (bS19.mono d14_19.size)
        have d15_20 := d15_19.trans (bS19.mono d15_19.size)
        have d16_20 := d16_19.trans (bS19.mono d16_19.size)
        have d17_20 := d17_19.trans (bS19.mono d17_19.size)
        have d18_20 := d18_19.trans (bS19.mono d18_19.size)
        have d19_20 := bS19
        refine (gall_v ls3 (by decide) (by simp) (hT.below d0_20)).mono ?_
        rintro e w21 ⟨vg7, rfl, hg7, b21⟩
        have d0_21 := d0_20.trans (b21.mono d0_20.size)
        have d1_21 := d1_20.trans (b21.mono d1_20.size)
        have d2_21 := d2_20.trans (b21.mono d2_20.size)
        have d3_21 := d3_20.trans (b21.mono d3_20.size)
        have d4_21 := d4_20.trans (b21.mono d4_20.size)
        have d5_21 := d5_20.trans (b21.mono d5_20.size)
        have d6_21 := d6_20.trans (b21.mono d6_20.size)
        have d7_21 := d7_20.trans (b21.mono d7_20.size)
        have d8_21 := d8_20.trans (b21.mono d8_20.size)
        have d9_21 := d9_20.trans (b21.mono d9_20.size)
        have d10_21 := d10_20.trans (b21.mono d10_20.size)
        have d11_21 := d11_20.trans (b21.mono d11_20.size)
        have d12_21 := d12_20.trans (b21.mono d12_20.size)
        have d13_21 := d13_20.trans (b21.mono d13_20.size)
        have d14_21 := d14_20.trans (b21.mono d14_20.size)
        have d15_21 := d15_20.trans (b21.mono d15_20.size)
        have d16_21 := d16_20.trans (b21.mono d16_20.size)
        have d17_21 := d17_20.trans (b21.mono d17_20.size)
        have d18_21 := d18_20.trans (b21.mono d18_20.size)
        have d19_21 := d19_20.trans (b21.mono d19_20.size)
        have d20_21 := b21
        go_wp2_with fail
        refine (gcd_v ((hg.below d1_21).lv hgl) (lc.below d0_21) (by decide) (hT.below d0_21)).mono ?_
        rintro e w22 ⟨vg8, rfl, hg8, b22⟩
        have d0_22 := d0_21.trans (b22.mono d0_21.size)
        have d1_22 := d1_21.trans (b22.mono d1_21.size)
        have d2_22 := d2_21.trans (b22.mono d2_21.size)
        have d3_22 := d3_21.trans (b22.mono d3_21.size)
        have d4_22 := d4_21.trans (b22.mono d4_21.size)
        have d5_22 := d5_21.trans (b22.mono d5_21.size)
        have d6_22 := d6_21.trans (b22.mono d6_21.size)
        have d7_22 := d7_21.trans (b22.mono d7_21.size)
        have d8_22 := d8_21.trans (b22.mono d8_21.size)
        have d9_22 := d9_21.trans (b22.mono d9_21.size)
        have d10_22 := d10_21.trans (b22.mono d10_21.size)
        have d11_22 := d11_21.trans (b22.mono d11_21.size)
        have d12_22 := d12_21.trans (b22.mono d12_21.size)
        have d13_22 := d13_21.trans (b22.mono d13_21.size)
        have d14_22 := d14_21.trans (b22.mono d14_21.size)
        have d15_22 := d15_21.trans (b22.mono d15_21.size)
        have d16_22 := d16_21.trans (b22.mono d16_21.size)
        have d17_22 := d17_21.trans (b22.mono d17_21.size)
        have d18_22 := d18_21.trans (b22.mono d18_21.size)
        have d19_22 := d19_21.trans (b22.mono d19_21.size)
        have d20_22 := d20_21.trans (b22.mono d20_21.size)
        have d21_22 := b22
        go_wp2_with fail
        refine (r4same_t (hg7.below d21_22) hg8 D5.out).mono ?_
        rintro e w23 ⟨rfl, b23⟩
        have d0_23 := d0_22.trans (b23.mono d0_22.size)
        have d1_23 := d1_22.trans (b23.mono d1_22.size)
        have d2_23 := d2_22.trans (b23.mono d2_22.size)
        have d3_23 := d3_22.trans (b23.mono d3_22.size)
        have d4_23 := d4_22.trans (b23.mono d4_22.size)
        have d5_23 := d5_22.trans (b23.mono d5_22.size)
        have d6_23 := d6_22.trans (b23.mono d6_22.size)
        have d7_23 := d7_22.trans (b23.mono d7_22.size)
        have d8_23 := d8_22.trans (b23.mono d8_22.size)
        have d9_23 := d9_22.trans (b23.mono d9_22.size)
        have d10_23 := d10_22.trans (b23.mono d10_22.size)
        have d11_23 := d11_22.trans (b23.mono d11_22.size)
        have d12_23 := d12_22.trans (b23.mono d12_22.size)
        have d13_23 := d13_22.trans (b23.mono d13_22.size)
        have d14_23 := d14_22.trans (b23.mono d14_22.size)
        have d15_23 := d15_22.trans (b23.mono d15_22.size)
        have d16_23 := d16_22.trans (b23.mono d16_22.size)
        have d17_23 := d17_22.trans (b23.mono d17_22.size)
        have d18_23 := d18_22.trans (b23.mono d18_22.size)
        have d19_23 := d19_22.trans (b23.mono d19_22.size)
        have d20_23 := d20_22.trans (b23.mono d20_22.size)
        have d21_23 := d21_22.trans (b23.mono d21_22.size)
        have d22_23 := b23
        go_wp2_with fail
        refine (wakes4_any _ (hT.below d0_23)).mono ?_
        rintro e w24 ⟨rfl, b24⟩
        have d0_24 := d0_23.trans (b24.mono d0_23.size)
        have d1_24 := d1_23.trans (b24.mono d1_23.size)
        have d2_24 := d2_23.trans (b24.mono d2_23.size)
        have d3_24 := d3_23.trans (b24.mono d3_23.size)
        have d4_24 := d4_23.trans (b24.mono d4_23.size)
        have d5_24 := d5_23.trans (b24.mono d5_23.size)
        have d6_24 := d6_23.trans (b24.mono d6_23.size)
        have d7_24 := d7_23.trans (b24.mono d7_23.size)
        have d8_24 := d8_23.trans (b24.mono d8_23.size)
        have d9_24 := d9_23.trans (b24.mono d9_23.size)
        have d10_24 := d10_23.trans (b24.mono d10_23.size)
        have d11_24 := d11_23.trans (b24.mono d11_23.size)
        have d12_24 := d12_23.trans (b24.mono d12_23.size)
        have d13_24 := d13_23.trans (b24.mono d13_23.size)
        have d14_24 := d14_23.trans (b24.mono d14_23.size)
        have d15_24 := d15_23.trans (b24.mono d15_23.size)
        have d16_24 := d16_23.trans (b24.mono d16_23.size)
        have d17_24 := d17_23.trans (b24.mono d17_23.size)
        have d18_24 := d18_23.trans (b24.mono d18_23.size)
        have d19_24 := d19_23.trans (b24.mono d19_23.size)
        have d20_24 := d20_23.trans (b24.mono d20_23.size)
        have d21_24 := d21_23.trans (b24.mono d21_23.size)
        have d22_24 := d22_23.trans (b24.mono d22_23.size)
        have d23_24 := b24
        go_wp2_with fail
        go_ret
        exact ⟨rfl, d0_24⟩
    · have qtc := ptc hk0; clear ztc ptc
      go_wp2_with fail
      refine (rmul_v (la.below d0_8) (lc.below d0_8) (by decide)).mono ?_
      rintro e w9 ⟨vac, rfl, hac, b9⟩
      have d0_9 := d0_8.trans (b9.mono d0_8.size)
      have d1_9 := d1_8.trans (b9.mono d1_8.size)
      have d2_9 := d2_8.trans (b9.mono d2_8.size)
      have d3_9 := d3_8.trans (b9.mono d3_8.size)
      have d4_9 := d4_8.trans (b9.mono d4_8.size)
      have d5_9 := d5_8.trans (b9.mono d5_8.size)
      have d6_9 := d6_8.trans (b9.mono d6_8.size)
      have d7_9 := d7_8.trans (b9.mono d7_8.size)
      have d8_9 := b9
      go_wp2_with fail
      refine (rmul_v (lb.below d0_9) (lc.below d0_9) (by decide)).mono ?_
      rintro e w10 ⟨vbc, rfl, hbc, b10⟩
      have d0_10 := d0_9.trans (b10.mono d0_9.size)
      have d1_10 := d1_9.trans (b10.mono d1_9.size)
      have d2_10 := d2_9.trans (b10.mono d2_9.size)
      have d3_10 := d3_9.trans (b10.mono d3_9.size)
      have d4_10 := d4_9.trans (b10.mono d4_9.size)
      have d5_10 := d5_9.trans (b10.mono d5_9.size)
      have d6_10 := d6_9.trans (b10.mono d6_9.size)
      have d7_10 := d7_9.trans (b10.mono d7_9.size)
      have d8_10 := d8_9.trans (b10.mono d8_9.size)
      have d9_10 := b10
      go_wp2_with fail
      refine (gcd_v ((hac.below d9_10).lv bac) (hbc.lv bbc) (by decide) (hT.below d0_10)).mono ?_
      rintro e w11 ⟨vg3, rfl, hg3, b11⟩
      have d0_11 := d0_10.trans (b11.mono d0_10.size)
      have d1_11 := d1_10.trans (b11.mono d1_10.size)
      have d2_11 := d2_10.trans (b11.mono d2_10.size)
      have d3_11 := d3_10.trans (b11.mono d3_10.size)
      have d4_11 := d4_10.trans (b11.mono d4_10.size)
      have d5_11 := d5_10.trans (b11.mono d5_10.size)
      have d6_11 := d6_10.trans (b11.mono d6_10.size)
      have d7_11 := d7_10.trans (b11.mono d7_10.size)
      have d8_11 := d8_10.trans (b11.mono d8_10.size)
      have d9_11 := d9_10.trans (b11.mono d9_10.size)
      have d10_11 := b11
      go_wp2_with fail
      refine (rmul_v ((hg.below d1_11).lv hgl) (lc.below d0_11) (by decide)).mono ?_
      rintro e w12 ⟨vgc, rfl, hgc, b12⟩
      have d0_12 := d0_11.trans (b12.mono d0_11.size)
      have d1_12 := d1_11.trans (b12.mono d1_11.size)
      have d2_12 := d2_11.trans (b12.mono d2_11.size)
      have d3_12 := d3_11.trans (b12.mono d3_11.size)
      have d4_12 := d4_11.trans (b12.mono d4_11.size)
      have d5_12 := d5_11.trans (b12.mono d5_11.size)
      have d6_12 := d6_11.trans (b12.mono d6_11.size)
      have d7_12 := d7_11.trans (b12.mono d7_11.size)
      have d8_12 := d8_11.trans (b12.mono d8_11.size)
      have d9_12 := d9_11.trans (b12.mono d9_11.size)
      have d10_12 := d10_11.trans (b12.mono d10_11.size)
      have d11_12 := b12
      go_wp2_with fail
      refine (r4same_t (hg3.below d11_12) hgc D1.out).mono ?_
      rintro e w13 ⟨rfl, b13⟩
      have d0_13 := d0_12.trans (b13.mono d0_12.size)
      have d1_13 := d1_12.trans (b13.mono d1_12.size)
      have d2_13 := d2_12.trans (b13.mono d2_12.size)
      have d3_13 := d3_12.trans (b13.mono d3_12.size)
      have d4_13 := d4_12.trans (b13.mono d4_12.size)
      have d5_13 := d5_12.trans (b13.mono d5_12.size)
      have d6_13 := d6_12.trans (b13.mono d6_12.size)
      have d7_13 := d7_12.trans (b13.mono d7_12.size)
      have d8_13 := d8_12.trans (b13.mono d8_12.size)
      have d9_13 := d9_12.trans (b13.mono d9_12.size)
      have d10_13 := d10_12.trans (b13.mono d10_12.size)
      have d11_13 := d11_12.trans (b13.mono d11_12.size)
      have d12_13 := b13
      go_wp2_with fail
      have hcp := coprime_v (la.below d0_13) (lc.below d0_13) (by decide) (hT.below d0_13)
      cases hcc : (Nat.gcd a k == 1)
      · rw [hcc] at hcp
        clear hcc
        refine (hcp).mono ?_
        rintro e w14 ⟨rfl, b14⟩
        have d0_14 := d0_13.trans (b14.mono d0_13.size)
        have d1_14 := d1_13.trans (b14.mono d1_13.size)
        have d2_14 := d2_13.trans (b14.mono d2_13.size)
        have d3_14 := d3_13.trans (b14.mono d3_13.size)
        have d4_14 := d4_13.trans (b14.mono d4_13.size)
        have d5_14 := d5_13.trans (b14.mono d5_13.size)
        have d6_14 := d6_13.trans (b14.mono d6_13.size)
        have d7_14 := d7_13.trans (b14.mono d7_13.size)
        have d8_14 := d8_13.trans (b14.mono d8_13.size)
        have d9_14 := d9_13.trans (b14.mono d9_13.size)
        have d10_14 := d10_13.trans (b14.mono d10_13.size)
        have d11_14 := d11_13.trans (b14.mono d11_13.size)
        have d12_14 := d12_13.trans (b14.mono d12_13.size)
        have d13_14 := b14
        have ad := radd2_v (lb.below d0_14) (la.below d0_14) (by decide) 23
        have bS14 : Below w14.heap.size w14 (w14.alloc (.cells #[.slice A' n' c', .slice A n c] 23)) := (Below.refl _ w14).alloc (Nat.le_refl _) _
        go_wp2_with fail
        have d0_15 := d0_14.trans (bS14.mono d0_14.size)
        have d1_15 := d1_14.trans (bS14.mono d1_14.size)
        have d2_15 := d2_14.trans (bS14.mono d2_14.size)
        have d3_15 := d3_14.trans (bS14.mono d3_14.size)
        have d4_15 := d4_14.trans (bS14.mono d4_14.size)
        have d5_15 := d5_14.trans (bS14.mono d5_14.size)
        have d6_15 := d6_14.trans (bS14.mono d6_14.size)
        have d7_15 := d7_14.trans (bS14.mono d7_14.size)
        have d8_15 := d8_14.trans (bS14.mono d8_14.size)
        have d9_15 := d9_14.trans (bS14.mono d9_14.size)
        have d10_15 := d10_14.trans (bS14.mono d10_14.size)
        have d11_15 := d11_14.trans (bS14.mono d11_14.size)
        have d12_15 := d12_14.trans (bS14.mono d12_14.size)
        have d13_15 := d13_14.trans (bS14.mono d13_14.size)
        have d14_15 := bS14
        refine (ad).mono ?_
        rintro e w16 ⟨vad, rfl, had, b16⟩
        have d0_16 := d0_15.trans (b16.mono d0_15.size)
        have d1_16 := d1_15.trans (b16.mono d1_15.size)
        have d2_16 := d2_15.trans (b16.mono d2_15.size)
        have d3_16 := d3_15.trans (b16.mono d3_15.size)
        have d4_16 := d4_15.trans (b16.mono d4_15.size)
        have d5_16 := d5_15.trans (b16.mono d5_15.size)
        have d6_16 := d6_15.trans (b16.mono d6_15.size)
        have d7_16 := d7_15.trans (b16.mono d7_15.size)
        have d8_16 := d8_15.trans (b16.mono d8_15.size)
        have d9_16 := d9_15.trans (b16.mono d9_15.size)
        have d10_16 := d10_15.trans (b16.mono d10_15.size)
        have d11_16 := d11_15.trans (b16.mono d11_15.size)
        have d12_16 := d12_15.trans (b16.mono d12_15.size)
        have d13_16 := d13_15.trans (b16.mono d13_15.size)
        have d14_16 := d14_15.trans (b16.mono d14_15.size)
        have d15_16 := b16
        go_wp2_with fail
        refine (gcd_v ((la.below d0_16).mono (by decide)) (had.lv hba7) (by decide) (hT.below d0_16)).mono ?_
        rintro e w17 ⟨vg5, rfl, hg5, b17⟩
        have d0_17 := d0_16.trans (b17.mono d0_16.size)
        have d1_17 := d1_16.trans (b17.mono d1_16.size)
        have d2_17 := d2_16.trans (b17.mono d2_16.size)
        have d3_17 := d3_16.trans (b17.mono d3_16.size)
        have d4_17 := d4_16.trans (b17.mono d4_16.size)
        have d5_17 := d5_16.trans (b17.mono d5_16.size)
        have d6_17 := d6_16.trans (b17.mono d6_16.size)
        have d7_17 := d7_16.trans (b17.mono d7_16.size)
        have d8_17 := d8_16.trans (b17.mono d8_16.size)
        have d9_17 := d9_16.trans (b17.mono d9_16.size)
        have d10_17 := d10_16.trans (b17.mono d10_16.size)
        have d11_17 := d11_16.trans (b17.mono d11_16.size)
        have d12_17 := d12_16.trans (b17.mono d12_16.size)
        have d13_17 := d13_16.trans (b17.mono d13_16.size)
        have d14_17 := d14_16.trans (b17.mono d14_16.size)
        have d15_17 := d15_16.trans (b17.mono d15_16.size)
        have d16_17 := b17
        go_wp2_with fail
        refine (r4same_t hg5 (hg.below d1_17) D3.out).mono ?_
        rintro e w18 ⟨rfl, b18⟩
        have d0_18 := d0_17.trans (b18.mono d0_17.size)
        have d1_18 := d1_17.trans (b18.mono d1_17.size)
        have d2_18 := d2_17.trans (b18.mono d2_17.size)
        have d3_18 := d3_17.trans (b18.mono d3_17.size)
        have d4_18 := d4_17.trans (b18.mono d4_17.size)
        have d5_18 := d5_17.trans (b18.mono d5_17.size)
        have d6_18 := d6_17.trans (b18.mono d6_17.size)
        have d7_18 := d7_17.trans (b18.mono d7_17.size)
        have d8_18 := d8_17.trans (b18.mono d8_17.size)
        have d9_18 := d9_17.trans (b18.mono d9_17.size)
        have d10_18 := d10_17.trans (b18.mono d10_17.size)
        have d11_18 := d11_17.trans (b18.mono d11_17.size)
        have d12_18 := d12_17.trans (b18.mono d12_17.size)
        have d13_18 := d13_17.trans (b18.mono d13_17.size)
        have d14_18 := d14_17.trans (b18.mono d14_17.size)
        have d15_18 := d15_17.trans (b18.mono d15_17.size)
        have d16_18 := d16_17.trans (b18.mono d16_17.size)
        have d17_18 := b18
        have ls2 := LSV.two (la.below d0_18) (lb.below d0_18) (by decide) 23
        have bS18 : Below w18.heap.size w18 (w18.alloc (.cells #[.slice A n c, .slice A' n' c'] 23)) := (Below.refl _ w18).alloc (Nat.le_refl _) _
        go_wp2_with fail
        have d0_19 := d0_18.trans (bS18.mono d0_18.size)
        have d1_19 := d1_18.trans (bS18.mono d1_18.size)
        have d2_19 := d2_18.trans (bS18.mono d2_18.size)
        have d3_19 := d3_18.trans (bS18.mono d3_18.size)
        have d4_19 := d4_18.trans (bS18.mono d4_18.size)
        have d5_19 := d5_18.trans (bS18.mono d5_18.size)
        have d6_19 := d6_18.trans (bS18.mono d6_18.size)
        have d7_19 := d7_18.trans (bS18.mono d7_18.size)
        have d8_19 := d8_18.trans (bS18.mono d8_18.size)
        have d9_19 := d9_18.trans (bS18.mono d9_18.size)
        have d10_19 := d10_18.trans (bS18.mono d10_18.size)
        have d11_19 := d11_18.trans (bS18.mono d11_18.size)
        have d12_19 := d12_18.trans (bS18.mono d12_18.size)
        have d13_19 := d13_18.trans (bS18.mono d13_18.size)
        have d14_19 := d14_18.trans (bS18.mono d14_18.size)
        have d15_19 := d15_18.trans (bS18.mono d15_18.size)
        have d16_19 := d16_18.trans (bS18.mono d16_18.size)
        have d17_19 := d17_18.trans (bS18.mono d17_18.size)
        have d18_19 := bS18
        refine (gall_v ls2 (by decide) (by simp) (hT.below d0_19)).mono ?_
        rintro e w20 ⟨vg6, rfl, hg6, b20⟩
        have d0_20 := d0_19.trans (b20.mono d0_19.size)
        have d1_20 := d1_19.trans (b20.mono d1_19.size)
        have d2_20 := d2_19.trans (b20.mono d2_19.size)
        have d3_20 := d3_19.trans (b20.mono d3_19.size)
        have d4_20 := d4_19.trans (b20.mono d4_19.size)
        have d5_20 := d5_19.trans (b20.mono d5_19.size)
        have d6_20 := d6_19.trans (b20.mono d6_19.size)
        have d7_20 := d7_19.trans (b20.mono d7_19.size)
        have d8_20 := d8_19.trans (b20.mono d8_19.size)
        have d9_20 := d9_19.trans (b20.mono d9_19.size)
        have d10_20 := d10_19.trans (b20.mono d10_19.size)
        have d11_20 := d11_19.trans (b20.mono d11_19.size)
        have d12_20 := d12_19.trans (b20.mono d12_19.size)
        have d13_20 := d13_19.trans (b20.mono d13_19.size)
        have d14_20 := d14_19.trans (b20.mono d14_19.size)
        have d15_20 := d15_19.trans (b20.mono d15_19.size)
        have d16_20 := d16_19.trans (b20.mono d16_19.size)
        have d17_20 := d17_19.trans (b20.mono d17_19.size)
        have d18_20 := d18_19.trans (b20.mono d18_19.size)
        have d19_20 := b20
        go_wp2_with fail
        refine (r4same_t hg6 (hg.below d1_20) D4.out).mono ?_
        rintro e w21 ⟨rfl, b21⟩
        have d0_21 := d0_20.trans (b21.mono d0_20.size)
        have d1_21 := d1_20.trans (b21.mono d1_20.size)
        have d2_21 := d2_20.trans (b21.mono d2_20.size)
        have d3_21 := d3_20.trans (b21.mono d3_20.size)
        have d4_21 := d4_20.trans (b21.mono d4_20.size)
        have d5_21 := d5_20.trans (b21.mono d5_20.size)
        have d6_21 := d6_20.trans (b21.mono d6_20.size)
        have d7_21 := d7_20.trans (b21.mono d7_20.size)
        have d8_21 := d8_20.trans (b21.mono d8_20.size)
        have d9_21 := d9_20.trans (b21.mono d9_20.size)
        have d10_21 := d10_20.trans (b21.mono d10_20.size)
        have d11_21 := d11_20.trans (b21.mono d11_20.size)
        have d12_21 := d12_20.trans (b21.mono d12_20.size)
        have d13_21 := d13_20.trans (b21.mono d13_20.size)
        have d14_21 := d14_20.trans (b21.mono d14_20.size)
        have d15_21 := d15_20.trans (b21.mono d15_20.size)
        have d16_21 := d16_20.trans (b21.mono d16_20.size)
        have d17_21 := d17_20.trans (b21.mono d17_20.size)
        have d18_21 := d18_20.trans (b21.mono d18_20.size)
        have d19_21 := d19_20.trans (b21.mono d19_20.size)
        have d20_21 := b21
        have ls3 := LSV.three (la.below d0_21) (lb.below d0_21) (lc.below d0_21) (by decide) 23
        have bS21 : Below w21.heap.size w21 (w21.alloc (.cells #[.slice A n c, .slice A' n' c', .slice A'' n'' c''] 23)) := (Below.refl _ w21).alloc (Nat.le_refl _) _
        go_wp2_with fail
        have d0_22 := d0_21.trans (bS21.mono d0_21.size)
        have d1_22 := d1_21.trans (bS21.mono d1_21.size)
        have d2_22 := d2_21.trans (bS21.mono d2_21.size)
        have d3_22 := d3_21.trans (bS21.mono d3_21.size)
        have d4_22 := d4_21.trans (bS21.mono d4_21.size)
        have d5_22 := d5_21.trans (bS21.mono d5_21.size)
        have d6_22 := d6_21.trans (bS21.mono d6_21.size)
        have d7_22 := d7_21.trans (bS21.mono d7_21.size)
        have d8_22 := d8_21.trans (bS21.mono d8_21.size)
        have d9_22 := d9_21.trans (bS21.mono d9_21.size)
        have d10_22 := d10_21.trans (bS21.mono d10_21.size)
        have d11_22 := d11_21.trans (bS21.mono d11_21.size)
        have d12_22 := d12_21.trans (bS21.mono d12_21.size)
        have d13_22 := d13_21.trans (bS21.mono d13_21.size)
        have d14_22 := d14_21.trans (bS21.mono d14_21.size)
        have d15_22 := d15_21.trans (bS21.mono d15_21.size)
        have d16_22 := d16_21.trans (bS21.mono d16_21.size)
        have d17_22 := d17_21.trans (bS21.mono d17_21.size)
        have d18_22 := d18_21.trans (bS21.mono d18_21.size)
        have d19_22 := d19_21.trans (bS21.mono d19_21.size)
        have d20_22 := d20_21.trans (bS21.mono d20_21.size)
        have d21_22 := bS21
        refine (gall_v ls3 (by decide) (by simp) (hT.below d0_22)).mono ?_
        rintro e w23 ⟨vg7, rfl, hg7, b23⟩
        have d0_23 := d0_22.trans (b23.mono d0_22.size)
        have d1_23 := d1_22.trans (b23.mono d1_22.size)
        have d2_23 := d2_22.trans (b23.mono d2_22.size)
        have d3_23 := d3_22.trans (b23.mono d3_22.size)
        have d4_23 := d4_22.trans (b23.mono d4_22.size)
        have d5_23 := d5_22.trans (b23.mono d5_22.size)
        have d6_23 := d6_22.trans (b23.mono d6_22.size)
        have d7_23 := d7_22.trans (b23.mono d7_22.size)
        have d8_23 := d8_22.trans (b23.mono d8_22.size)
        have d9_23 := d9_22.trans (b23.mono d9_22.size)
        have d10_23 := d10_22.trans (b23.mono d10_22.size)
        have d11_23 := d11_22.trans (b23.mono d11_22.size)
        have d12_23 := d12_22.trans (b23.mono d12_22.size)
        have d13_23 := d13_22.trans (b23.mono d13_22.size)
        have d14_23 := d14_22.trans (b23.mono d14_22.size)
        have d15_23 := d15_22.trans (b23.mono d15_22.size)
        have d16_23 := d16_22.trans (b23.mono d16_22.size)
        have d17_23 := d17_22.trans (b23.mono d17_22.size)
        have d18_23 := d18_22.trans (b23.mono d18_22.size)
        have d19_23 := d19_22.trans (b23.mono d19_22.size)
        have d20_23 := d20_22.trans (b23.mono d20_22.size)
        have d21_23 := d21_22.trans (b23.mono d21_22.size)
        have d22_23 := b23
        go_wp2_with fail
        refine (gcd_v ((hg.below d1_23).lv hgl) (lc.below d0_23) (by decide) (hT.below d0_23)).mono ?_
        rintro e w24 ⟨vg8, rfl, hg8, b24⟩
        have d0_24 := d0_23.trans (b24.mono d0_23.size)
        have d1_24 := d1_23.trans (b24.mono d1_23.size)
        have d2_24 := d2_23.trans (b24.mono d2_23.size)
        have d3_24 := d3_23.trans (b24.mono d3_23.size)
        have d4_24 := d4_23.trans (b24.mono d4_23.size)
        have d5_24 := d5_23.trans (b24.mono d5_23.size)
        have d6_24 := d6_23.trans (b24.mono d6_23.size)
        have d7_24 := d7_23.trans (b24.mono d7_23.size)
        have d8_24 := d8_23.trans (b24.mono d8_23.size)
        have d9_24 := d9_23.trans (b24.mono d9_23.size)
        have d10_24 := d10_23.trans (b24.mono d10_23.size)
        have d11_24 := d11_23.trans (b24.mono d11_23.size)
        have d12_24 := d12_23.trans (b24.mono d12_23.size)
        have d13_24 := d13_23.trans (b24.mono d13_23.size)
        have d14_24 := d14_23.trans (b24.mono d14_23.size)
        have d15_24 := d15_23.trans (b24.mono d15_23.size)
        have d16_24 := d16_23.trans (b24.mono d16_23.size)
        have d17_24 := d17_23.trans (b24.mono d17_23.size)
        have d18_24 := d18_23.trans (b24.mono d18_23.size)
        have d19_24 := d19_23.trans (b24.mono d19_23.size)
        have d20_24 := d20_23.trans (b24.mono d20_23.size)
        have d21_24 := d21_23.trans (b24.mono d21_23.size)
        have d22_24 := d22_23.trans (b24.mono d22_23.size)
        have d23_24 := b24
        go_wp2_with fail
        refine (r4same_t (hg7.below d23_24) hg8 D5.out).mono ?_
        rintro e w25 ⟨rfl, b25⟩
        have d0_25 := d0_24.trans (b25.mono d0_24.size)
        have d1_25 := d1_24.trans (b25.mono d1_24.size)
        have d2_25 := d2_24.trans (b25.mono d2_24.size)
        have d3_25 := d3_24.trans (b25.mono d3_24.size)
        have d4_25 := d4_24.trans (b25.mono d4_24.size)
        have d5_25 := d5_24.trans (b25.mono d5_24.size)
        have d6_25 := d6_24.trans (b25.mono d6_24.size)
        have d7_25 := d7_24.trans (b25.mono d7_24.size)
        have d8_25 := d8_24.trans (b25.mono d8_24.size)
        have d9_25 := d9_24.trans (b25.mono d9_24.size)
        have d10_25 := d10_24.trans (b25.mono d10_24.size)
        have d11_25 := d11_24.trans (b25.mono d11_24.size)
        have d12_25 := d12_24.trans (b25.mono d12_24.size)
        have d13_25 := d13_24.trans (b25.mono d13_24.size)
        have d14_25 := d14_24.trans (b25.mono d14_24.size)
        have d15_25 := d15_24.trans (b25.mono d15_24.size)
        have d16_25 := d16_24.trans (b25.mono d16_24.size)
        have d17_25 := d17_24.trans (b25.mono d17_24.size)
        have d18_25 := d18_24.trans (b25.mono d18_24.size)
        have d19_25 := d19_24.trans (b25.mono d19_24.size)
        have d20_25 := d20_24.trans (b25.mono d20_24.size)
        have d21_25 := d21_24.trans (b25.mono d21_24.size)
        have d22_25 := d22_24.trans (b25.mono d22_24.size)
        have d23_25 := d23_24.trans (b25.mono d23_24.size)
        have d24_25 := b25
        go_wp2_with fail
        refine (wakes4_any _ (hT.below d0_25)).mono ?_
        rintro e w26 ⟨rfl, b26⟩
        have d0_26 := d0_25.trans (b26.mono d0_25.size)
        have d1_26 := d1_25.trans (b26.mono d1_25.size)
        have d2_26 := d2_25.trans (b26.mono d2_25.size)
        have d3_26 := d3_25.trans (b26.mono d3_25.size)
        have d4_26 := d4_25.trans (b26.mono d4_25.size)
        have d5_26 := d5_25.trans (b26.mono d5_25.size)
        have d6_26 := d6_25.trans (b26.mono d6_25.size)
        have d7_26 := d7_25.trans (b26.mono d7_25.size)
        have d8_26 := d8_25.trans (b26.mono d8_25.size)
        have d9_26 := d9_25.trans (b26.mono d9_25.size)
        have d10_26 := d10_25.trans (b26.mono d10_25.size)
        have d11_26 := d11_25.trans (b26.mono d11_25.size)
        have d12_26 := d12_25.trans (b26.mono d12_25.size)
        have d13_26 := d13_25.trans (b26.mono d13_25.size)
        have d14_26 := d14_25.trans (b26.mono d14_25.size)
        have d15_26 := d15_25.trans (b26.mono d15_25.size)
        have d16_26 := d16_25.trans (b26.mono d16_25.size)
        have d17_26 := d17_25.trans (b26.mono d17_25.size)
        have d18_26 := d18_25.trans (b26.mono d18_25.size)
        have d19_26 := d19_25.trans (b26.mono d19_25.size)
        have d20_26 := d20_25.trans (b26.mono d20_25.size)
        have d21_26 := d21_25.trans (b26.mono d21_25.size)
        have d22_26 := d22_25.trans (b26.mono d22_25.size)
        have d23_26 := d23_25.trans (b26.mono d23_25.size)
        have d24_26 := d24_25.trans (b26.mono d24_25.size)
        have d25_26 := b26
        go_wp2_with fail
        go_ret
        exact ⟨rfl, d0_26⟩
      · rw [hcc] at hcp
        have hc1 : Nat.gcd a k = 1 := eq_of_beq hcc
        have DD := hid (D2.out hc1)
        clear hc1
        clear hcc
        refine (hcp).mono ?_
        rintro e w14 ⟨rfl, b14⟩
        have d0_14 := d0_13.trans (b14.mono d0_13.size)
        have d1_14 := d1_13.trans (b14.mono d1_13.size)
        have d2_14 := d2_13.trans (b14.mono d2_13.size)
        have d3_14 := d3_13.trans (b14.mono d3_13.size)
        have d4_14 := d4_13.trans (b14.mono d4_13.size)
        have d5_14 := d5_13.trans (b14.mono d5_13.size)
        have d6_14 := d6_13.trans (b14.mono d6_13.size)
        have d7_14 := d7_13.trans (b14.mono d7_13.size)
        have d8_14 := d8_13.trans (b14.mono d8_13.size)
        have d9_14 := d9_13.trans (b14.mono d9_13.size)
        have d10_14 := d10_13.trans (b14.mono d10_13.size)
        have d11_14 := d11_13.trans (b14.mono d11_13.size)
        have d12_14 := d12_13.trans (b14.mono d12_13.size)
        have d13_14 := b14
        go_wp2_with fail
        refine (rmul_v (lb.below d0_14) (lc.below d0_14) (by decide)).mono ?_
        rintro e w15 ⟨vbc2, rfl, hbc2, b15⟩
        have d0_15 := d0_14.trans (b15.mono d0_14.size)
        have d1_15 := d1_14.trans (b15.mono d1_14.size)
        have d2_15 := d2_14.trans (b15.mono d2_14.size)
        have d3_15 := d3_14.trans (b15.mono d3_14.size)
        have d4_15 := d4_14.trans (b15.mono d4_14.size)
        have d5_15 := d5_14.trans (b15.mono d5_14.size)
        have d6_15 := d6_14.trans (b15.mono d6_14.size)
        have d7_15 := d7_14.trans (b15.mono d7_14.size)
        have d8_15 := d8_14.trans (b15.mono d8_14.size)
        have d9_15 := d9_14.trans (b15.mono d9_14.size)
        have d10_15 := d10_14.trans (b15.mono d10_14.size)
        have d11_15 := d11_14.trans (b15.mono d11_14.size)
        have d12_15 := d12_14.trans (b15.mono d12_14.size)
        have d13_15 := d13_14.trans (b15.mono d13_14.size)
        have d14_15 := b15
        go_wp2_with fail
        refine (gcd_v ((la.below d0_15).mono (by decide)) (hbc2.lv bbc) (by decide) (hT.below d0_15)).mono ?_
        rintro e w16 ⟨vg4, rfl, hg4, b16⟩
        have d0_16 := d0_15.trans (b16.mono d0_15.size)
        have d1_16 := d1_15.trans (b16.mono d1_15.size)
        have d2_16 := d2_15.trans (b16.mono d2_15.size)
        have d3_16 := d3_15.trans (b16.mono d3_15.size)
        have d4_16 := d4_15.trans (b16.mono d4_15.size)
        have d5_16 := d5_15.trans (b16.mono d5_15.size)
        have d6_16 := d6_15.trans (b16.mono d6_15.size)
        have d7_16 := d7_15.trans (b16.mono d7_15.size)
        have d8_16 := d8_15.trans (b16.mono d8_15.size)
        have d9_16 := d9_15.trans (b16.mono d9_15.size)
        have d10_16 := d10_15.trans (b16.mono d10_15.size)
        have d11_16 := d11_15.trans (b16.mono d11_15.size)
        have d12_16 := d12_15.trans (b16.mono d12_15.size)
        have d13_16 := d13_15.trans (b16.mono d13_15.size)
        have d14_16 := d14_15.trans (b16.mono d14_15.size)
        have d15_16 := b16
        go_wp2_with fail
        refine (r4same_t hg4 (hg.below d1_16) DD.out).mono ?_
        rintro e w17 ⟨rfl, b17⟩
        have d0_17 := d0_16.trans (b17.mono d0_16.size)
        have d1_17 := d1_16.trans (b17.mono d1_16.size)
        have d2_17 := d2_16.trans (b17.mono d2_16.size)
        have d3_17 := d3_16.trans (b17.mono d3_16.size)
        have d4_17 := d4_16.trans (b17.mono d4_16.size)
        have d5_17 := d5_16.trans (b17.mono d5_16.size)
        have d6_17 := d6_16.trans (b17.mono d6_16.size)
        have d7_17 := d7_16.trans (b17.mono d7_16.size)
        have d8_17 := d8_16.trans (b17.mono d8_16.size)
        have d9_17 := d9_16.trans (b17.mono d9_16.size)
        have d10_17 := d10_16.trans (b17.mono d10_16.size)
        have d11_17 := d11_16.trans (b17.mono d11_16.size)
        have d12_17 := d12_16.trans (b17.mono d12_16.size)
        have d13_17 := d13_16.trans (b17.mono d13_16.size)
        have d14_17 := d14_16.trans (b17.mono d14_16.size)
        have d15_17 := d15_16.trans (b17.mono d15_16.size)
        have d16_17 := b17
        have ad := radd2_v (lb.below d0_17) (la.below d0_17) (by decide) 23
        have bS17 : Below w17.heap.size w17 (w17.alloc (.cells #[.slice A' n' c', .slice A n c] 23)) := (Below.refl _ w17).alloc (Nat.le_refl _) _
        go_wp2_with fail
        have d0_18 := d0_17.trans (bS17.mono d0_17.size)
        have d1_18 := d1_17.trans (bS17.mono d1_17.size)
        have d2_18 := d2_17.trans (bS17.mono d2_17.size)
        have d3_18 := d3_17.trans (bS17.mono d3_17.size)
        have d4_18 := d4_17.trans (bS17.mono d4_17.size)
        have d5_18 := d5_17.trans (bS17.mono d5_17.size)
        have d6_18 := d6_17.trans (bS17.mono d6_17.size)
        have d7_18 := d7_17.trans (bS17.mono d7_17.size)
        have d8_18 := d8_17.trans (bS17.mono d8_17.size)
        have d9_18 := d9_17.trans (bS17.mono d9_17.size)
        have d10_18 := d10_17.trans (bS17.mono d10_17.size)
        have d11_18 := d11_17.trans (bS17.mono d11_17.size)
        have d12_18 := d12_17.trans (bS17.mono d12_17.size)
        have d13_18 := d13_17.trans (bS17.mono d13_17.size)
        have d14_18 := d14_17.trans (bS17.mono d14_17.size)
        have d15_18 := d15_17.trans (bS17.mono d15_17.size)
        have d16_18 := d16_17.trans (bS17.mono d16_17.size)
        have d17_18 := bS17
        refine (ad).mono ?_
        rintro e w19 ⟨vad, rfl, had, b19⟩
        have d0_19 := d0_18.trans (b19.mono d0_18.size)
        have d1_19 := d1_18.trans (b19.mono d1_18.size)
        have d2_19 := d2_18.trans (b19.mono d2_18.size)
        have d3_19 := d3_18.trans (b19.mono d3_18.size)
        have d4_19 := d4_18.trans (b19.mono d4_18.size)
        have d5_19 := d5_18.trans (b19.mono d5_18.size)
        have d6_19 := d6_18.trans (b19.mono d6_18.size)
        have d7_19 := d7_18.trans (b19.mono d7_18.size)
        have d8_19 := d8_18.trans (b19.mono d8_18.size)
        have d9_19 := d9_18.trans (b19.mono d9_18.size)
        have d10_19 := d10_18.trans (b19.mono d10_18.size)
        have d11_19 := d11_18.trans (b19.mono d11_18.size)
        have d12_19 := d12_18.trans (b19.mono d12_18.size)
        have d13_19 := d13_18.trans (b19.mono d13_18.size)
        have d14_19 := d14_18.trans (b19.mono d14_18.size)
        have d15_19 := d15_18.trans (b19.mono d15_18.size)
        have d16_19 := d16_18.trans (b19.mono d16_18.size)
        have d17_19 := d17_18.trans (b19.mono d17_18.size)
        have d18_19 := b19
        go_wp2_with fail
        refine (gcd_v ((la.below d0_19).mono (by decide)) (had.lv hba7) (by decide) (hT.below d0_19)).mono ?_
        rintro e w20 ⟨vg5, rfl, hg5, b20⟩
        have d0_20 := d0_19.trans (b20.mono d0_19.size)
        have d1_20 := d1_19.trans (b20.mono d1_19.size)
        have d2_20 := d2_19.trans (b20.mono d2_19.size)
        have d3_20 := d3_19.trans (b20.mono d3_19.size)
        have d4_20 := d4_19.trans (b20.mono d4_19.size)
        have d5_20 := d5_19.trans (b20.mono d5_19.size)
        have d6_20 := d6_19.trans (b20.mono d6_19.size)
        have d7_20 := d7_19.trans (b20.mono d7_19.size)
        have d8_20 := d8_19.trans (b20.mono d8_19.size)
        have d9_20 := d9_19.trans (b20.mono d9_19.size)
        have d10_20 := d10_19.trans (b20.mono d10_19.size)
        have d11_20 := d11_19.trans (b20.mono d11_19.size)
        have d12_20 := d12_19.trans (b20.mono d12_19.size)
        have d13_20 := d13_19.trans (b20.mono d13_19.size)
        have d14_20 := d14_19.trans (b20.mono d14_19.size)
        have d15_20 := d15_19.trans (b20.mono d15_19.size)
        have d16_20 := d16_19.trans (b20.mono d16_19.size)
        have d17_20 := d17_19.trans (b20.mono d17_19.size)
        have d18_20 := d18_19.trans (b20.mono d18_19.size)
        have d19_20 := b20
        go_wp2_with fail
        refine (r4same_t hg5 (hg.below d1_20) D3.out).mono ?_
        rintro e w21 ⟨rfl, b21⟩
        have d0_21 := d0_20.trans (b21.mono d0_20.size)
        have d1_21 := d1_20.trans (b21.mono d1_20.size)
        have d2_21 := d2_20.trans (b21.mono d2_20.size)
        have d3_21 := d3_20.trans (b21.mono d3_20.size)
        have d4_21 := d4_20.trans (b21.mono d4_20.size)
        have d5_21 := d5_20.trans (b21.mono d5_20.size)
        have d6_21 := d6_20.trans (b21.mono d6_20.size)
        have d7_21 := d7_20.trans (b21.mono d7_20.size)
        have d8_21 := d8_20.trans (b21.mono d8_20.size)
        have d9_21 := d9_20.trans (b21.mono d9_20.size)
        have d10_21 := d10_20.trans (b21.mono d10_20.size)
        have d11_21 := d11_20.trans (b21.mono d11_20.size)
        have d12_21 := d12_20.trans (b21.mono d12_20.size)
        have d13_21 := d13_20.trans (b21.mono d13_20.size)
        have d14_21 := d14_20.trans (b21.mono d14_20.size)
        have d15_21 := d15_20.trans (b21.mono d15_20.size)
        have d16_21 := d16_20.trans (b21.mono d16_20.size)
        have d17_21 := d17_20.trans (b21.mono d17_20.size)
        have d18_21 := d18_20.trans (b21.mono d18_20.size)
        have d19_21 := d19_20.trans (b21.mono d19_20.size)
        have d20_21 := b21
        have ls2 := LSV.two (la.below d0_21) (lb.below d0_21) (by decide) 23
        have bS21 : Below w21.heap.size w21 (w21.alloc (.cells #[.slice A n c, .slice A' n' c'] 23)) := (Below.refl _ w21).alloc (Nat.le_refl _) _
        go_wp2_with fail
        have d0_22 := d0_21.trans (bS21.mono d0_21.size)
        have d1_22 := d1_21.trans (bS21.mono d1_21.size)
        have d2_22 := d2_21.trans (bS21.mono d2_21.size)
        have d3_22 := d3_21.trans (bS21.mono d3_21.size)
        have d4_22 := d4_21.trans (bS21.mono d4_21.size)
        have d5_22 := d5_21.trans (bS21.mono d5_21.size)
        have d6_22 := d6_21.trans (bS21.mono d6_21.size)
        have d7_22 := d7_21.trans (bS21.mono d7_21.size)
        have d8_22 := d8_21.trans (bS21.mono d8_21.size)
        have d9_22 := d9_21.trans (bS21.mono d9_21.size)
        have d10_22 := d10_21.trans (bS21.mono d10_21.size)
        have d11_22 := d11_21.trans (bS21.mono d11_21.size)
        have d12_22 := d12_21.trans (bS21.mono d12_21.size)
        have d13_22 := d13_21.trans (bS21.mono d13_21.size)
        have d14_22 := d14_21.trans (bS21.mono d14_21.size)
        have d15_22 := d15_21.trans (bS21.mono d15_21.size)
        have d16_22 := d16_21.trans (bS21.mono d16_21.size)
        have d17_22 := d17_21.trans (bS21.mono d17_21.size)
        have d18_22 := d18_21.trans (bS21.mono d18_21.size)
        have d19_22 := d19_21.trans (bS21.mono d19_21.size)
        have d20_22 := d20_21.trans (bS21.mono d20_21.size)
        have d21_22 := bS21
        refine (gall_v ls2 (by decide) (by simp) (hT.below d0_22)).mono ?_
        rintro e w23 ⟨vg6, rfl, hg6, b23⟩
        have d0_23 := d0_22.trans (b23.mono d0_22.size)
        have d1_23 := d1_22.trans (b23.mono d1_22.size)
        have d2_23 := d2_22.trans (b23.mono d2_22.size)
        have d3_23 := d3_22.trans (b23.mono d3_22.size)
        have d4_23 := d4_22.trans (b23.mono d4_22.size)
        have d5_23 := d5_22.trans (b23.mono d5_22.size)
        have d6_23 := d6_22.trans (b23.mono d6_22.size)
        have d7_23 := d7_22.trans (b23.mono d7_22.size)
        have d8_23 := d8_22.trans (b23.mono d8_22.size)
        have d9_23 := d9_22.trans (b23.mono d9_22.size)
        have d10_23 := d10_22.trans (b23.mono d10_22.size)
        have d11_23 := d11_22.trans (b23.mono d11_22.size)
        have d12_23 := d12_22.trans (b23.mono d12_22.size)
        have d13_23 := d13_22.trans (b23.mono d13_22.size)
        have d14_23 := d14_22.trans (b23.mono d14_22.size)
        have d15_23 := d15_22.trans (b23.mono d15_22.size)
        have d16_23 := d16_22.trans (b23.mono d16_22.size)
        have d17_23 := d17_22.trans (b23.mono d17_22.size)
        have d18_23 := d18_22.trans (b23.mono d18_22.size)
        have d19_23 := d19_22.trans (b23.mono d19_22.size)
        have d20_23 := d20_22.trans (b23.mono d20_22.size)
        have d21_23 := d21_22.trans (b23.mono d21_22.size)
        have d22_23 := b23
        go_wp2_with fail
        refine (r4same_t hg6 (hg.below d1_23) D4.out).mono ?_
        rintro e w24 ⟨rfl, b24⟩
        have d0_24 := d0_23.trans (b24.mono d0_23.size)
        have d1_24 := d1_23.trans (b24.mono d1_23.size)
        have d2_24 := d2_23.trans (b24.mono d2_23.size)
        have d3_24 := d3_23.trans (b24.mono d3_23.size)
        have d4_24 := d4_23.trans (b24.mono d4_23.size)
        have d5_24 := d5_23.trans (b24.mono d5_23.size)
        have d6_24 := d6_23.trans (b24.mono d6_23.size)
        have d7_24 := d7_23.trans (b24.mono d7_23.size)
        have d8_24 := d8_23.trans (b24.mono d8_23.size)
        have d9_24 := d9_23.trans (b24.mono d9_23.size)
        have d10_24 := d10_23.trans (b24.mono d10_23.size)
        have d11_24 := d11_23.trans (b24.mono d11_23.size)
        have d12_24 := d12_23.trans (b24.mono d12_23.size)
        have d13_24 := d13_23.trans (b24.mono d13_23.size)
        have d14_24 := d14_23.trans (b24.mono d14_23.size)
        have d15_24 := d15_23.trans (b24.mono d15_23.size)
        have d16_24 := d16_23.trans (b24.mono d16_23.size)
        have d17_24 := d17_23.trans (b24.mono d17_23.size)
        have d18_24 := d18_23.trans (b24.mono d18_23.size)
        have d19_24 := d19_23.trans (b24.mono d19_23.size)
        have d20_24 := d20_23.trans (b24.mono d20_23.size)
        have d21_24 := d21_23.trans (b24.mono d21_23.size)
        have d22_24 := d22_23.trans (b24.mono d22_23.size)
        have d23_24 := b24
        have ls3 := LSV.three (la.below d0_24) (lb.below d0_24) (lc.below d0_24) (by decide) 23
        have bS24 : Below w24.heap.size w24 (w24.alloc (.cells #[.slice A n c, .slice A' n' c', .slice A'' n'' c''] 23)) := (Below.refl _ w24).alloc (Nat.le_refl _) _
        go_wp2_with fail
        have d0_25 := d0_24.trans (bS24.mono d0_24.size)
        have d1_25 := d1_24.trans (bS24.mono d1_24.size)
        have d2_25 := d2_24.trans (bS24.mono d2_24.size)
        have d3_25 := d3_24.trans (bS24.mono d3_24.size)
        have d4_25 := d4_24.trans (bS24.mono d4_24.size)
        have d5_25 := d5_24.trans (bS24.mono d5_24.size)
        have d6_25 := d6_24.trans (bS24.mono d6_24.size)
        have d7_25 := d7_24.trans (bS24.mono d7_24.size)
        have d8_25 := d8_24.trans (bS24.mono d8_24.size)
        have d9_25 := d9_24.trans (bS24.mono d9_24.size)
        have d10_25 := d10_24.trans (bS24.mono d10_24.size)
        have d11_25 := d11_24.trans (bS24.mono d11_24.size)
        have d12_25 := d12_24.trans (bS24.mono d12_24.size)
        have d13_25 := d13_24.trans (bS24.mono d13_24.size)
        have d14_25 := d14_24.trans (bS24.mono d14_24.size)
        have d15_25 := d15_24.trans (bS24.mono d15_24.size)
        have d16_25 := d16_24.trans (bS24.mono d16_24.size)
        have d17_25 := d17_24.trans (bS24.mono d17_24.size)
        have d18_25 := d18_24.trans (bS24.mono d18_24.size)
        have d19_25 := d19_24.trans (bS24.mono d19_24.size)
        have d20_25 := d20_24.trans (bS24.mono d20_24.size)
        have d21_25 := d21_24.trans (bS24.mono d21_24.size)
        have d22_25 := d22_24.trans (bS24.mono d22_24.size)
        have d23_25 := d23_24.trans (bS24.mono d23_24.size)
        have d24_25 := bS24
        refine (gall_v ls3 (by decide) (by simp) (hT.below d0_25)).mono ?_
        rintro e w26 ⟨vg7, rfl, hg7, b26⟩
        have d0_26 := d0_25.trans (b26.mono d0_25.size)
        have d1_26 := d1_25.trans (b26.mono d1_25.size)
        have d2_26 := d2_25.trans (b26.mono d2_25.size)
        have d3_26 := d3_25.trans (b26.mono d3_25.size)
        have d4_26 := d4_25.trans (b26.mono d4_25.size)
        have d5_26 := d5_25.trans (b26.mono d5_25.size)
        have d6_26 := d6_25.trans (b26.mono d6_25.size)
        have d7_26 := d7_25.trans (b26.mono d7_25.size)
        have d8_26 := d8_25.trans (b26.mono d8_25.size)
        have d9_26 := d9_25.trans (b26.mono d9_25.size)
        have d10_26 := d10_25.trans (b26.mono d10_25.size)
        have d11_26 := d11_25.trans (b26.mono d11_25.size)
        have d12_26 := d12_25.trans (b26.mono d12_25.size)
        have d13_26 := d13_25.trans (b26.mono d13_25.size)
        have d14_26 := d14_25.trans (b26.mono d14_25.size)
        have d15_26 := d15_25.trans (b26.mono d15_25.size)
        have d16_26 := d16_25.trans (b26.mono d16_25.size)
        have d17_26 := d17_25.trans (b26.mono d17_25.size)
        have d18_26 := d18_25.trans (b26.mono d18_25.size)
        have d19_26 := d19_25.trans (b26.mono d19_25.size)
        have d20_26 := d20_25.trans (b26.mono d20_25.size)
        have d21_26 := d21_25.trans (b26.mono d21_25.size)
        have d22_26 := d22_25.trans (b26.mono d22_25.size)
        have d23_26 := d23_25.trans (b26.mono d23_25.size)
        have d24_26 := d24_25.trans (b26.mono d24_25.size)
        have d25_26 := b26
        go_wp2_with fail
        refine (gcd_v ((hg.below d1_26).lv hgl) (lc.below d0_26) (by decide) (hT.below d0_26)).mono ?_
        rintro e w27 ⟨vg8, rfl, hg8, b27⟩
        have d0_27 := d0_26.trans (b27.mono d0_26.size)
        have d1_27 := d1_26.trans (b27.mono d1_26.size)
        have d2_27 := d2_26.trans (b27.mono d2_26.size)
        have d3_27 := d3_26.trans (b27.mono d3_26.size)
        have d4_27 := d4_26.trans (b27.mono d4_26.size)
        have d5_27 := d5_26.trans (b27.mono d5_26.size)
        have d6_27 := d6_26.trans (b27.mono d6_26.size)
        have d7_27 := d7_26.trans (b27.mono d7_26.size)
        have d8_27 := d8_26.trans (b27.mono d8_26.size)
        have d9_27 := d9_26.trans (b27.mono d9_26.size)
        have d10_27 := d10_26.trans (b27.mono d10_26.size)
        have d11_27 := d11_26.trans (b27.mono d11_26.size)
        have d12_27 := d12_26.trans (b27.mono d12_26.size)
        have d13_27 := d13_26.trans (b27.mono d13_26.size)
        have d14_27 := d14_26.trans (b27.mono d14_26.size)
        have d15_27 := d15_26.trans (b27.mono d15_26.size)
        have d16_27 := d16_26.trans (b27.mono d16_26.size)
        have d17_27 := d17_26.trans (b27.mono d17_26.size)
        have d18_27 := d18_26.trans (b27.mono d18_26.size)
        have d19_27 := d19_26.trans (b27.mono d19_26.size)
        have d20_27 := d20_26.trans (b27.mono d20_26.size)
        have d21_27 := d21_26.trans (b27.mono d21_26.size)
        have d22_27 := d22_26.trans (b27.mono d22_26.size)
        have d23_27 := d23_26.trans (b27.mono d23_26.size)
        have d24_27 := d24_26.trans (b27.mono d24_26.size)
        have d25_27 := d25_26.trans (b27.mono d25_26.size)
        have d26_27 := b27
        go_wp2_with fail
        refine (r4same_t (hg7.below d26_27) hg8 D5.out).mono ?_
        rintro e w28 ⟨rfl, b28⟩
        have d0_28 := d0_27.trans (b28.mono d0_27.size)
        have d1_28 := d1_27.trans (b28.mono d1_27.size)
        have d2_28 := d2_27.trans (b28.mono d2_27.size)
        have d3_28 := d3_27.trans (b28.mono d3_27.size)
        have d4_28 := d4_27.trans (b28.mono d4_27.size)
        have d5_28 := d5_27.trans (b28.mono d5_27.size)
        have d6_28 := d6_27.trans (b28.mono d6_27.size)
        have d7_28 := d7_27.trans (b28.mono d7_27.size)
        have d8_28 := d8_27.trans (b28.mono d8_27.size)
        have d9_28 := d9_27.trans (b28.mono d9_27.size)
        have d10_28 := d10_27.trans (b28.mono d10_27.size)
        have d11_28 := d11_27.trans (b28.mono d11_27.size)
        have d12_28 := d12_27.trans (b28.mono d12_27.size)
        have d13_28 := d13_27.trans (b28.mono d13_27.size)
        have d14_28 := d14_27.trans (b28.mono d14_27.size)
        have d15_28 := d15_27.trans (b28.mono d15_27.size)
        have d16_28 := d16_27.trans (b28.mono d16_27.size)
        have d17_28 := d17_27.trans (b28.mono d17_27.size)
        have d18_28 := d18_27.trans (b28.mono d18_27.size)
        have d19_28 := d19_27.trans (b28.mono d19_27.size)
        have d20_28 := d20_27.trans (b28.mono d20_27.size)
        have d21_28 := d21_27.trans (b28.mono d21_27.size)
        have d22_28 := d22_27.trans (b28.mono d22_27.size)
        have d23_28 := d23_27.trans (b28.mono d23_27.size)
        have d24_28 := d24_27.trans (b28.mono d24_27.size)
        have d25_28 := d25_27.trans (b28.mono d25_27.size)
        have d26_28 := d26_27.trans (b28.mono d26_27.size)
        have d27_28 := b28
        go_wp2_with fail
        refine (wakes4_any _ (hT.below d0_28)).mono ?_
        rintro e w29 ⟨rfl, b29⟩
        have d0_29 := d0_28.trans (b29.mono d0_28.size)
        have d1_29 := d1_28.trans (b29.mono d1_28.size)
        have d2_29 := d2_28.trans (b29.mono d2_28.size)
        have d3_29 := d3_28.trans (b29.mono d3_28.size)
        have d4_29 := d4_28.trans (b29.mono d4_28.size)
        have d5_29 := d5_28.trans (b29.mono d5_28.size)
        have d6_29 := d6_28.trans (b29.mono d6_28.size)
        have d7_29 := d7_28.trans (b29.mono d7_28.size)
        have d8_29 := d8_28.trans (b29.mono d8_28.size)
        have d9_29 := d9_28.trans (b29.mono d9_28.size)
        have d10_29 := d10_28.trans (b29.mono d10_28.size)
        have d11_29 := d11_28.trans (b29.mono d11_28.size)
        have d12_29 := d12_28.trans (b29.mono d12_28.size)
        have d13_29 := d13_28.trans (b29.mono d13_28.size)
        have d14_29 := d14_28.trans (b29.mono d14_28.size)
        have d15_29 := d15_28.trans (b29.mono d15_28.size)
        have d16_29 := d16_28.trans (b29.mono d16_28.size)
        have d17_29 := d17_28.trans (b29.mono d17_28.size)
        have d18_29 := d18_28.trans (b29.mono d18_28.size)
        have d19_29 := d19_28.trans (b29.mono d19_28.size)
        have d20_29 := d20_28.trans (b29.mono d20_28.size)
        have d21_29 := d21_28.trans (b29.mono d21_28.size)
        have d22_29 := d22_28.trans (b29.mono d22_28.size)
        have d23_29 := d23_28.trans (b29.mono d23_28.size)
        have d24_29 := d24_28.trans (b29.mono d24_28.size)
        have d25_29 := d25_28.trans (b29.mono d25_28.size)
        have d26_29 := d26_28.trans (b29.mono d26_28.size)
        have d27_29 := d27_28.trans (b29.mono d27_28.size)
        have d28_29 := b29
        go_wp2_with fail
        go_ret
        exact ⟨rfl, d0_29⟩
end Go.Proofs.Wd
