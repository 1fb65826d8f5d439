/- The walk of straitlaw04.GcdOwn. -/
import Derived.Test.YtghgemeclgpibaaDoorMG18
import Derived.Test.YtghgemeclgpibaaDoorMW1
namespace Go.Proofs.Wd
open Go.RowKit Lb

theorem Row.of_hat {w : World} {base : Nat} {A : Option Addr} {n c g0 : Nat} {l : List Nat} (h : Own32 w base 49 (.slice A n c) l) (hat : (Value.slice A n c).ownBlock = some g0) : ∃ R, A = some ⟨R, 0, none⟩ ∧ n = l.length ∧ base ≤ R ∧ Row w R c l := by
  obtain ⟨h1, h2⟩ := h
  rcases h2 with ⟨hv, hn⟩ | ⟨g, cap, cur, hv, hg, hh, hnc, hcm, hcs, ht⟩
  · injection hv with a1 a2 a3
    subst a1
    simp [Value.ownBlock] at hat
  · injection hv with a1 a2 a3
    subst a1; subst a3
    exact ⟨g, rfl, a2, hg, cur, hh, by simpa using hcs, hnc, by unfold maxLen at hcm; omega, by simpa using ht⟩

theorem wpList_copy {w : World} {ops : Array Oper} {rest : List Oper} {o : Oper} {a : Act} {Q : Exit → Act → World → Prop} (hgd : o.guard = none) (s x : Operand)
    (ho : o.op = .call { callee := .builtin .append, args := #[s, x], argTypes := #[23, 23] })
    (hs : a.eval s = .slice (some ⟨w.heap.size, 0, none⟩) 0 0)
    (A : Option Addr) (n c : Nat) (l : List Nat) (hx : a.eval x = .slice A n c) (hr : Rd w A n c l) (hn : n ≤ 100000)
    (h : ∀ R c' w', Row w' R c' l → w.heap.size ≤ R → Below w.heap.size w w' → wpList Tryd.prog ops Q rest (a.put o.dst (.slice (some ⟨R, 0, none⟩) n c')) w') : wpList Tryd.prog ops Q (o :: rest) a (w.alloc (.cells #[] 49)) := by
  have hown : Own32 (w.alloc (.cells #[] 49)) w.heap.size 49 (.slice (some ⟨w.heap.size, 0, none⟩) 0 0) [] := World.ownsRow_made (base := w.heap.size) (e := 49) (size := 1) w #[] 0 (Nat.le_refl _) (by unfold maxLen; omega) rfl
  have hbs : w.heap.size ≤ (w.alloc (.cells #[] 49)).heap.size := by simp
  have hlen := hr.len
  refine wpList_append_rd hgd s x 23 49 ho u32_under u32_info w.heap.size _ [] hs hown A n c l hx (hr.alloc _) (by simp; omega) hbs ?_
  intro v1 w1 h1 h2 h3
  rw [List.nil_append] at h1
  obtain ⟨A1, c1, rfl⟩ := h1.form' hlen
  have hat : ∃ g0, (Value.slice A1 n c1).ownBlock = some g0 := by
    rcases h3 with e | e
    · exact ⟨w.heap.size, by rw [e]; rfl⟩
    · exact ⟨_, e⟩
  obtain ⟨g0, hat⟩ := hat
  obtain ⟨R, rfl, -, hR, hrow⟩ := Row.of_hat h1 hat
  exact h R c1 w1 hrow hR (Own32.grown ((Below.refl w.heap.size w).alloc (Nat.le_refl _) _) hown h2 (Nat.le_refl _) hbs)

theorem wpList_app0 {w : World} {ops : Array Oper} {rest : List Oper} {o : Oper} {a : Act} {Q : Exit → Act → World → Prop} (hgd : o.guard = none) (s x : Operand)
    (ho : o.op = .call { callee := .builtin .append, args := #[s, x], argTypes := #[23, 3] })
    (R n cap k : Nat) (l : List Nat) (hs : a.eval s = .slice (some ⟨R, 0, none⟩) n cap) (hx : a.eval x = .int .i64 (k : Int)) (hrow : Row w R cap l) (hl : l.length = n) (hn : n + k ≤ 100000)
    (h : ∀ R' c' w', Row w' R' c' (l ++ List.replicate k 0) → w.grownBy w' (some R) → (R' = R ∨ R' = w.heap.size) → wpList Tryd.prog ops Q rest (a.put o.dst (.slice (some ⟨R', 0, none⟩) (n + k) c')) w') : wpList Tryd.prog ops Q (o :: rest) a w :=
  wpList_plain hgd fun _ hK => by
    obtain ⟨R', c', w', hrun, h2, h3, h4⟩ := run_app0K R n cap k l w hrow hl hn o.type
    unfold Oper.wp execOp
    simp only [ho, resolve, invoke, builtin, Sem.run_bind, Sem.run_pure, Result.andThen_ok, List.map_toArray, List.map_cons, List.map_nil, hs, hx, hrun]
    exact hK _ _ (h R' c' w' h2 h3 h4)

theorem r4same_l {W : World} {A : Option Addr} {n c : Nat} {A' : Option Addr} {n' c' : Nat} {l : List Nat} (h : Rd W A n c l) (h' : Rd W A' n' c' l) : Calls Tryd.prog 13 #[.slice A n c, .slice A' n' c'] W fun e w' => e = .returned (.bool true) ∧ Below W.heap.size W w' := by
  refine (r4same_any A n c l A' n' c' l W h h').mono ?_
  rintro e w' ⟨rfl, nq, rfl⟩
  exact ⟨by simp, below_dn nq⟩

set_option maxHeartbeats 4000000 in
theorem own_any (A : Option Addr) (n c : Nat) (l : List Nat) (A' : Option Addr) (n' c' : Nat) (l' : List Nat) (z : Int) (w : World) (h : Rd w A n c l) (ht : Lt l) (h' : Rd w A' n' c' l') (ht' : Lt l') (hz : -9223372036854775808 ≤ z ∧ z ≤ 9223372036854775807) (hT : Tab w) :
    Calls Tryd.prog 4 #[.slice A n c, .slice A' n' c', .int .i64 z] w fun e w' => e = .returned (.bool true) ∧ Below w.heap.size w w' := by
  have hle := h.le; have hcap := h.cap; have hle' := h'.le; have hcap' := h'.cap
  obtain ⟨M, hM⟩ : ∃ M, max n n' = M := ⟨_, rfl⟩
  have hmax : max (n : Int) (n' : Int) = (M : Int) := by omega
  rcases (by omega : 8 < M ∨ (M ≤ 8 ∧ z < 0) ∨ (M ≤ 8 ∧ 4 < z) ∨ (M ≤ 8 ∧ 0 ≤ z ∧ z ≤ 4)) with hbig | ⟨hbig, hz1⟩ | ⟨hbig, hz1⟩ | ⟨hbig, hz0, hz4⟩
  iterate 3
    · clear hM
      go_enter Tryd.func4, Tryd.ntmps4
      go_wp2_with fail
      refine (wakes4_any _ hT).mono ?_
      rintro e w1 ⟨rfl, b1⟩
      go_wp2_with fail
      go_ret
      exact ⟨rfl, b1⟩
  obtain ⟨k, rfl⟩ : ∃ k : Nat, z = (k : Int) := ⟨z.toNat, by omega⟩
  have hk : k ≤ 4 := by omega
  have hn : n ≤ 8 := by omega
  have hn' : n' ≤ 8 := by omega
  have hlen := h.len; have hlen' := h'.len
  have la0 : LV w 8 (.slice A n c) (val l) := LV.mk h ht (by omega)
  have lb0 : LV w 8 (.slice A' n' c') (val l') := LV.mk h' ht' (by omega)
  obtain ⟨a, ha⟩ : ∃ a, val l = a := ⟨_, rfl⟩
  obtain ⟨b, hb⟩ : ∃ b, val l' = b := ⟨_, rfl⟩
  rw [ha] at la0
  rw [hb] at lb0
  have hlv : val (l ++ List.replicate k 0) = a := by rw [val_append, val_replicate, ha]; omega
  have htl : Lt (l ++ List.replicate k 0) := Lt_append ht (Lt_replicate k)
  have hll : (l ++ List.replicate k 0).length = n + k := by rw [List.length_append, List.length_replicate, hlen]
  have bda := la0.bound
  have bdb := lb0.bound
  have hgl := gcd_lt bda bdb
  have HG1 := hid (Nat.gcd_comm b a)
  clear hM hb ha
  go_enter Tryd.func4, Tryd.ntmps4
  go_wp2_with (first
    | (at_builtin; refine wpList_copy rfl _ _ rfl rfl A n c l rfl h (by omega) ?_; intro R1 c1 w1 row1 hR1 b1; have hcap1 := row1.cap.2; have h1' := h'.below b1)
    | (at_builtin; refine wpList_copy rfl _ _ rfl rfl A' n' c' l' rfl h1' (by omega) ?_; intro R2 c2 w2 row2 hR2 b2; have hcap2 := row2.cap.2; have d0_2 := b1.trans (b2.mono b1.size); have h2 := h.below d0_2)
    | (at_builtin; refine wpList_copy rfl _ _ rfl rfl A n c l rfl h2 (by omega) ?_; intro R3 c3 w3 row3 hR3 b3; have hcap3 := row3.cap.2)
    | (at_builtin; refine wpList_app0 rfl _ _ rfl R3 n c3 k l rfl rfl row3 hlen (by omega) ?_; intro R4 c4 w4 row4 hg4 hat4; have hcap4 := row4.cap.2))
  have d1_2 := b2
  have d2_3 := b3
  have b24 : Below w2.heap.size w2 w4 := b3.grown hg4 b3.size fun q e => by injection e with e; omega
  have d2_4 := b24
  have d0_4 := d0_2.trans (d2_4.mono d0_2.size)
  have d1_4 := d1_2.trans (d2_4.mono d1_2.size)
  have r1 : Rd w4 (some ⟨R1, 0, none⟩) l.length c1 l := (row1.kept (d1_4.block _ row1.lt)).rd
  have r2 : Rd w4 (some ⟨R2, 0, none⟩) l'.length c2 l' := (row2.kept (d2_4.block _ row2.lt)).rd
  have r4 := row4.rd
  rw [hll] at r4
  rw [hlen] at r1
  rw [hlen'] at r2
  have la := la0.below d0_4; have lb := lb0.below d0_4; have h4 := h.below d0_4; have h4' := h'.below d0_4; have hT4 := hT.below d0_4
  have ll : LV w4 12 (.slice (some ⟨R4, 0, none⟩) (n + k) c4) a := by
    have := LV.mk r4 htl (m := 12) (by omega)
    rwa [hlv] at this
  clear row1 row2 row3 row4 la0 lb0 h h' hT hg4 hat4 h1' h2 b24 hlv htl hll d1_2 d2_3 b1 b2 b3 d0_2 hR1 hR2 hR3 hz hz0 hz4 hbig
  have d0 := d0_4; clear d0_4 d1_4 d2_4
  go_wp2_with fail
  refine (gcd_v la lb (by decide) hT4).mono ?_
  rintro e w1 ⟨vg, rfl, hg, b1⟩
  have d0_1 := b1
  go_wp2_with fail
  refine (reduce_v (la.below d0_1) (lb.below d0_1) (by decide) (hT4.below d0_1)).mono ?_
  rintro e w2 ⟨vr1, vr2, rfl, hr1, hr2, b2⟩
  have d0_2 := d0_1.trans (b2.mono d0_1.size)
  have d1_2 := b2
  go_wp2_with fail
  refine (lcm_v (la.below d0_2) (lb.below d0_2) (by decide) (hT4.below d0_2)).mono ?_
  rintro e w3 ⟨vlc, rfl, hlc, b3⟩
  have d0_3 := d0_2.trans (b3.mono d0_2.size)
  have d1_3 := d1_2.trans (b3.mono d1_2.size)
  have d2_3 := b3
  go_wp2_with fail
  refine (r4same_l (h4.below d0_3) (r1.below d0_3)).mono ?_
  rintro e w4 ⟨rfl, b4⟩
  have d0_4 := d0_3.trans (b4.mono d0_3.size)
  have d1_4 := d1_3.trans (b4.mono d1_3.size)
  have d2_4 := d2_3.trans (b4.mono d2_3.size)
  have d3_4 := b4
  go_wp2_with fail
  refine (r4same_l (h4'.below d0_4) (r2.below d0_4)).mono ?_
  rintro e w5 ⟨rfl, b5⟩
  have d0_5 := d0_4.trans (b5.mono d0_4.size)
  have d1_5 := d1_4.trans (b5.mono d1_4.size)
  have d2_5 := d2_4.trans (b5.mono d2_4.size)
  have d3_5 := d3_4.trans (b5.mono d3_4.size)
  have d4_5 := b5
  go_wp2_with fail
  refine (gcd_v (ll.below d0_5) ((lb.below d0_5).mono (by decide)) (by decide) (hT4.below d0_5)).mono ?_
  rintro e w6 ⟨vg2, rfl, hg2, b6⟩
  have d0_6 := d0_5.trans (b6.mono d0_5.size)
  have d1_6 := d1_5.trans (b6.mono d1_5.size)
  have d2_6 := d2_5.trans (b6.mono d2_5.size)
  have d3_6 := d3_5.trans (b6.mono d3_5.size)
  have d4_6 := d4_5.trans (b6.mono d4_5.size)
  have d5_6 := b6
  go_wp2_with fail
  refine (r4same_t hg2 (hg.below d1_6) rfl).mono ?_
  rintro e w7 ⟨rfl, b7⟩
  have d0_7 := d0_6.trans (b7.mono d0_6.size)
  have d1_7 := d1_6.trans (b7.mono d1_6.size)
  have d2_7 := d2_6.trans (b7.mono d2_6.size)
  have d3_7 := d3_6.trans (b7.mono d3_6.size)
  have d4_7 := d4_6.trans (b7.mono d4_6.size)
  have d5_7 := d5_6.trans (b7.mono d5_6.size)
  have d6_7 := b7
  go_wp2_with fail
  refine (gcd_v ((lb.below d0_7).mono (by decide)) (ll.below d0_7) (by decide) (hT4.below d0_7)).mono ?_
  rintro e w8 ⟨vg3, rfl, hg3, b8⟩
  have d0_8 := d0_7.trans (b8.mono d0_7.size)
  have d1_8 := d1_7.trans (b8.mono d1_7.size)
  have d2_8 := d2_7.trans (b8.mono d2_7.size)
  have d3_8 := d3_7.trans (b8.mono d3_7.size)
  have d4_8 := d4_7.trans (b8.mono d4_7.size)
  have d5_8 := d5_7.trans (b8.mono d5_7.size)
  have d6_8 := d6_7.trans (b8.mono d6_7.size)
  have d7_8 := b8
  go_wp2_with fail
  refine (r4same_t hg3 (hg.below d1_8) HG1.out).mono ?_
  rintro e w9 ⟨rfl, b9⟩
  have d0_9 := d0_8.trans (b9.mono d0_8.size)
  have d1_9 := d1_8.trans (b9.mono d1_8.size)
  have d2_9 := d2_8.trans (b9.mono d2_8.size)
  have d3_9 := d3_8.trans (b9.mono d3_8.size)
  have d4_9 := d4_8.trans (b9.mono d4_8.size)
  have d5_9 := d5_8.trans (b9.mono d5_8.size)
  have d6_9 := d6_8.trans (b9.mono d6_8.size)
  have d7_9 := d7_8.trans (b9.mono d7_8.size)
  have d8_9 := b9
  go_wp2_with fail
  refine (rtrim_v ((hg.below d1_9).lv hgl) (by decide)).mono ?_
  rintro e w10 ⟨vt, rfl, ht, b10⟩
  have d0_10 := d0_9.trans (b10.mono d0_9.size)
  have d1_10 := d1_9.trans (b10.mono d1_9.size)
  have d2_10 := d2_9.trans (b10.mono d2_9.size)
  have d3_10 := d3_9.trans (b10.mono d3_9.size)
  have d4_10 := d4_9.trans (b10.mono d4_9.size)
  have d5_10 := d5_9.trans (b10.mono d5_9.size)
  have d6_10 := d6_9.trans (b10.mono d6_9.size)
  have d7_10 := d7_9.trans (b10.mono d7_9.size)
  have d8_10 := d8_9.trans (b10.mono d8_9.size)
  have d9_10 := b10
  go_wp2_with fail
  refine (r4same_t ht (hg.below d1_10) rfl).mono ?_
  rintro e w11 ⟨rfl, b11⟩
  have d0_11 := d0_10.trans (b11.mono d0_10.size)
  have d1_11 := d1_10.trans (b11.mono d1_10.size)
  have d2_11 := d2_10.trans (b11.mono d2_10.size)
  have d3_11 := d3_10.trans (b11.mono d3_10.size)
  have d4_11 := d4_10.trans (b11.mono d4_10.size)
  have d5_11 := d5_10.trans (b11.mono d5_10.size)
  have d6_11 := d6_10.trans (b11.mono d6_10.size)
  have d7_11 := d7_10.trans (b11.mono d7_10.size)
  have d8_11 := d8_10.trans (b11.mono d8_10.size)
  have d9_11 := d9_10.trans (b11.mono d9_10.size)
  have d10_11 := b11
  go_wp2_with fail
  refine (wakes4_any _ (hT4.below d0_11)).mono ?_
  rintro e w12 ⟨rfl, b12⟩
  have d0_12 := d0_11.trans (b12.mono d0_11.size)
  have d1_12 := d1_11.trans (b12.mono d1_11.size)
  have d2_12 := d2_11.trans (b12.mono d2_11.size)
  have d3_12 := d3_11.trans (b12.mono d3_11.size)
  have d4_12 := d4_11.trans (b12.mono d4_11.size)
  have d5_12 := d5_11.trans (b12.mono d5_11.size)
  have d6_12 := d6_11.trans (b12.mono d6_11.size)
  have d7_12 := d7_11.trans (b12.mono d7_11.size)
  have d8_12 := d8_11.trans (b12.mono d8_11.size)
  have d9_12 := d9_11.trans (b12.mono d9_11.size)
  have d10_12 := d10_11.trans (b12.mono d10_11.size)
  have d11_12 := b12
  go_wp2_with fail
  go_ret
  exact ⟨rfl, d0.trans (d0_12.mono d0.size)⟩
end Go.Proofs.Wd
