/- Cases of Karatsuba's step. -/
import Derived.Test.YtghgemeclgpibaaDoorMG8
namespace Go.Proofs.Wd
open Go.RowKit Lb
attribute [local go_sem] Oper.semAt_some wide_fn wide_depth

set_option maxRecDepth 100000 in
set_option maxHeartbeats 2000000 in
theorem kmul_p5 (mb : Nat) (b o n c : Nat) (l : List Nat) (b' o' c' : Nat) (l' : List Nat) (w : World) (h : Rd w (some ⟨b, o, none⟩) n c l) (h' : Rd w (some ⟨b', o', none⟩) n c' l') (ht : Lt l) (ht' : Lt l') (hn : n ≤ 40000) (k : Nat) (hk12 : 12 ≤ k)
    (hdiv : n / 2 = k) (h1 : k < n) (_h2 : k < n) (h3 : 12 < n) (_h4 : 12 < n) (ih : KMul (n - 1)) (hmb : w.cell? ⟨mb, 0, none⟩ = some (mulFn mb)) :
    Calls Tryd.prog 87 #[.slice (some ⟨b, o, none⟩) n c, .slice (some ⟨b', o', none⟩) n c', .pointer (some ⟨mb, 0, none⟩)] w (RetNat w (val l * val l')) := by
  have hmix : Tryd.prog.follows .mixedOrders = true := by kernel_rfl
  have hle := h.le; have hcap := h.cap; have hle' := h'.le; have hcap' := h'.cap
  have ra := h.take (k := k) (m := c) (by omega) (by omega) (Nat.le_refl _)
  have rb := h'.take (k := k) (m := c') (by omega) (by omega) (Nat.le_refl _)
  have ra2 : Rd w (some ⟨b, o + k, none⟩) (n - k) (c - k) (l.drop k) := by
    have := h.drop (k := k) (by omega)
    rw [if_neg (by omega)] at this
    simpa [Addr.add_lit] using this
  have rb2 : Rd w (some ⟨b', o' + k, none⟩) (n - k) (c' - k) (l'.drop k) := by
    have := h'.drop (k := k) (by omega)
    rw [if_neg (by omega)] at this
    simpa [Addr.add_lit] using this
  have hcl : ∀ W, Below w.heap.size w W → W.cell? ⟨mb, 0, none⟩ = some (mulFn mb) := fun W hb => (hb.cell (p := ⟨mb, 0, none⟩) (lt_of_cell hmb)).trans hmb
  have hen : ∀ args w, (callFunc 87 args).run Tryd.prog w = .ok (.enter 87 args) w := enters_of Tryd.func87 (by kernel_rfl) rfl
  have g1 : k ≤ c := by omega
  have g2 : k ≤ c' := by omega
  have g3 : k ≤ n := by omega
  have g4 : k ≤ n := by omega
  have g5 : ¬ c = k := by omega
  have g6 : ¬ c' = k := by omega
  have hdi : (n : Int) / 2 = (k : Int) := by omega
  go_enter Tryd.func87, Tryd.ntmps87
  go_wp2
  refine (wpIn_wide (n := 0)).1 ?_
  refine wpIn_region_C 100 (fun W => W.cell? ⟨mb, 0, none⟩ = some (.func (.func 87) #[] #[.pointer (some ⟨mb, 0, none⟩)])) hmix ?_
  have b0 : Below w.heap.size w w.drew := (Below.refl _ w).drew
  have c0 := hcl _ b0
  unfold mulFn at c0
  refine takeC (i := 0) (v := ?vv1) (by kernel_rfl) (by kernel_rfl) rfl (by kernel_rfl) (by kernel_rfl) (by kernel_rfl) (fun _ _ _ h => h) c0 ⟨.inl ⟨rfl, ?yy1⟩, fun _ => rfl⟩ ?_
  case yy1 =>
    rintro wx q1
    go_simp
    first | done | rfl
  refine takeC (i := 1) (v := ?vv2) (by kernel_rfl) (by kernel_rfl) rfl (by kernel_rfl) (by kernel_rfl) (by kernel_rfl) (fun _ _ _ h => h) c0 ⟨.inl ⟨rfl, ?yy2⟩, fun _ => rfl⟩ ?_
  case yy2 =>
    rintro wx q1
    go_simp
    first | done | rfl
  refine takeC (i := 2) (v := ?vv3) (by kernel_rfl) (by kernel_rfl) rfl (by kernel_rfl) (by kernel_rfl) (by kernel_rfl) (fun _ _ _ h => h) c0 ⟨.inl ⟨rfl, ?yy3⟩, fun _ => rfl⟩ ?_
  case yy3 =>
    rintro wx q1
    go_simp
    first | done | rfl
  refine takeC (i := 3) (v := ?vv4) (by kernel_rfl) (by kernel_rfl) rfl (by kernel_rfl) (by kernel_rfl) (by kernel_rfl) (fun _ _ _ h => h) c0 ⟨.inl ⟨rfl, ?yy4⟩, fun _ => rfl⟩ ?_
  case yy4 =>
    rintro wx q1
    go_simp
    first | done | rfl
  refine takeC (i := 4) (v := ?vv5) (by kernel_rfl) (by kernel_rfl) rfl (by kernel_rfl) (by kernel_rfl) (by kernel_rfl) (fun _ _ _ h => h) c0 ⟨.inl ⟨rfl, ?yy5⟩, fun _ => rfl⟩ ?_
  case yy5 =>
    rintro wx q1
    go_simp
    first | done | rfl
  refine takeC (i := 5) (v := ?vv6) (by kernel_rfl) (by kernel_rfl) rfl (by kernel_rfl) (by kernel_rfl) (by kernel_rfl) (fun _ _ _ h => h) c0 ⟨.inl ⟨rfl, ?yy6⟩, fun _ => rfl⟩ ?_
  case yy6 =>
    rintro wx q1
    go_simp
    first | done | rfl
  refine takeC (i := 6) (v := ?vv7) (by kernel_rfl) (by kernel_rfl) rfl (by kernel_rfl) (by kernel_rfl) (by kernel_rfl) (fun _ _ _ h => h) c0 ⟨.inl ⟨rfl, ?yy7⟩, fun _ => rfl⟩ ?_
  case yy7 =>
    rintro wx q1
    go_simp
    first | done | rfl
  refine takeC (i := 8) (v := ?vv8) (by kernel_rfl) (by kernel_rfl) rfl (by kernel_rfl) (by kernel_rfl) (by kernel_rfl) (fun _ _ _ h => h) c0 ⟨.inl ⟨rfl, ?yy8⟩, fun _ => rfl⟩ ?_
  case yy8 =>
    rintro wx q1
    go_simp
    first | done | rfl
  refine takeC (i := 9) (v := ?vv9) (by kernel_rfl) (by kernel_rfl) rfl (by kernel_rfl) (by kernel_rfl) (by kernel_rfl) (fun _ _ _ h => h) c0 ⟨.inl ⟨rfl, ?yy9⟩, fun _ => rfl⟩ ?_
  case yy9 =>
    rintro wx q1
    go_simp
    first | done | rfl
  refine takeC (i := 10) (v := ?vv10) (by kernel_rfl) (by kernel_rfl) rfl (by kernel_rfl) (by kernel_rfl) (by kernel_rfl) (fun _ _ _ h => h) c0 ⟨.inl ⟨rfl, ?yy10⟩, fun _ => rfl⟩ ?_
  case yy10 =>
    rintro wx q1
    go_simp
    first | done | rfl
  refine takeC (i := 11) (v := ?vv11) (by kernel_rfl) (by kernel_rfl) rfl (by kernel_rfl) (by kernel_rfl) (by kernel_rfl) (fun _ _ _ h => h) c0 ⟨.inl ⟨rfl, ?yy11⟩, fun _ => rfl⟩ ?_
  case yy11 =>
    rintro wx q1
    go_simp
    first | done | rfl
  refine takeC (i := 12) (v := ?vv12) (by kernel_rfl) (by kernel_rfl) rfl (by kernel_rfl) (by kernel_rfl) (by kernel_rfl) (fun _ _ _ h => h) c0 ⟨.inl ⟨rfl, ?yy12⟩, fun _ => rfl⟩ ?_
  case yy12 =>
    rintro wx q1
    go_simp
    first | done | rfl
  refine takeC (i := 13) (v := ?vv13) (by kernel_rfl) (by kernel_rfl) rfl (by kernel_rfl) (by kernel_rfl) (by kernel_rfl) (fun _ _ _ h => h) c0 ⟨.inl ⟨rfl, ?yy13⟩, fun _ => rfl⟩ ?_
  case yy13 =>
    rintro wx q1
    go_simp
    first | done | rfl
  refine takeC (i := 14) (v := ?vv14) (by kernel_rfl) (by kernel_rfl) rfl (by kernel_rfl) (by kernel_rfl) (by kernel_rfl) (fun _ _ _ h => h) c0 ⟨.inl ⟨rfl, ?yy14⟩, fun _ => rfl⟩ ?_
  case yy14 =>
    rintro wx q1
    go_simp
    first | done | rfl
  have i1 := ih mb _ _ _ _ _ _ _ _ w.drew (ra.below b0) (rb.below b0) (Lt_take ht k) (Lt_take ht' k) (by omega) (by omega) (hcl _ b0)
  refine oneC (i := 7) (by kernel_rfl) rfl (fun K hK => ?_)
  go_simp
  refine CallsIn.mono (callsIn_wide.2 i1) ?_
  rintro e W1 ⟨A1, n1, c1, l1, rfl, hi1, hr1, hb1⟩
  have b1 := b0.trans (hb1.mono b0.size)
  have c1' := hcl _ b1
  unfold mulFn at c1'
  refine hK _ _ (.inr c1') ?_
  clear hK K i1
  have i2 := ih mb _ _ _ _ _ _ _ _ W1 (ra2.below b1) (rb2.below b1) (Lt_drop ht k) (Lt_drop ht' k) (by omega) (by omega) (hcl _ b1)
  refine oneC (i := 15) (by kernel_rfl) rfl (fun K hK => ?_)
  go_simp
  refine CallsIn.mono (callsIn_wide.2 i2) ?_
  rintro e W2 ⟨A2, n2, c2, l2, rfl, hi2, hr2, hb2⟩
  have b2 := b1.trans (hb2.mono b1.size)
  have c2' := hcl _ b2
  unfold mulFn at c2'
  refine hK _ _ (.inr c2') ?_
  clear hK K i2
  refine oneC (i := 16) (by kernel_rfl) rfl (fun K hK => ?_)
  go_simp
  refine hK _ _ (.inr c2') ?_
  clear hK K
  refine oneC (i := 17) (by kernel_rfl) rfl (fun K hK => ?_)
  go_simp
  refine hK _ _ (.inr c2') ?_
  clear hK K
  refine doneP (by kernel_rfl) ?_
  have hr1' := hr1.below hb2
  go_wp2
  refine (wpIn_wide (n := 0)).1 ?_
  refine wpIn_region_C 100 (fun W => W.cell? ⟨mb, 0, none⟩ = some (.func (.func 87) #[] #[.pointer (some ⟨mb, 0, none⟩)]) ∧ Below W2.heap.size W2 W) hmix ?_
  have b3 : Below W2.heap.size W2 W2.drew := (Below.refl _ W2).drew
  have c3 := And.intro c2' b3
  refine takeC (i := 0) (v := ?vv15) (by kernel_rfl) (by kernel_rfl) rfl (by kernel_rfl) (by kernel_rfl) (by kernel_rfl) (fun _ _ _ h => h) c3 ⟨.inl ⟨rfl, ?yy15⟩, fun _ => rfl⟩ ?_
  case yy15 =>
    rintro wx ⟨q1, q2⟩
    go_simp
    first | done | rfl
  refine takeC (i := 1) (v := ?vv16) (by kernel_rfl) (by kernel_rfl) rfl (by kernel_rfl) (by kernel_rfl) (by kernel_rfl) (fun _ _ _ h => h) c3 ⟨.inl ⟨rfl, ?yy16⟩, fun _ => rfl⟩ ?_
  case yy16 =>
    rintro wx ⟨q1, q2⟩
    go_simp
    first | done | rfl
  refine takeC (i := 2) (v := ?vv17) (by kernel_rfl) (by kernel_rfl) rfl (by kernel_rfl) (by kernel_rfl) (by kernel_rfl) (fun _ _ _ h => h) c3 ⟨.inl ⟨rfl, ?yy17⟩, fun _ => rfl⟩ ?_
  case yy17 =>
    rintro wx ⟨q1, q2⟩
    go_simp
    first | done | rfl
  refine takeC (i := 3) (v := ?vv18) (by kernel_rfl) (by kernel_rfl) rfl (by kernel_rfl) (by kernel_rfl) (by kernel_rfl) (fun _ _ _ h => h) c3 ⟨.inl ⟨rfl, ?yy18⟩, fun _ => rfl⟩ ?_
  case yy18 =>
    rintro wx ⟨q1, q2⟩
    go_simp
    first | done | rfl
  refine takeC (i := 4) (v := ?vv19) (by kernel_rfl) (by kernel_rfl) rfl (by kernel_rfl) (by kernel_rfl) (by kernel_rfl) (fun _ _ _ h => h) c3 ⟨.inl ⟨rfl, ?yy19⟩, fun _ => rfl⟩ ?_
  case yy19 =>
    rintro wx ⟨q1, q2⟩
    go_simp
    first | done | rfl
  refine takeC (i := 5) (v := ?vv20) (by kernel_rfl) (by kernel_rfl) rfl (by kernel_rfl) (by kernel_rfl) (by kernel_rfl) (fun _ _ _ h => h) c3 ⟨.inl ⟨rfl, ?yy20⟩, fun _ => rfl⟩ ?_
  case yy20 =>
    rintro wx ⟨q1, q2⟩
    go_simp
    first | done | rfl
  refine takeC (i := 6) (v := ?vv21) (by kernel_rfl) (by kernel_rfl) rfl (by kernel_rfl) (by kernel_rfl) (by kernel_rfl) (fun _ _ _ h => h) c3 ⟨.inl ⟨rfl, ?yy21⟩, fun _ => rfl⟩ ?_
  case yy21 =>
    rintro wx ⟨q1, q2⟩
    go_simp
    first | done | rfl
  refine takeC (i := 9) (v := ?vv22) (by kernel_rfl) (by kernel_rfl) rfl (by kernel_rfl) (by kernel_rfl) (by kernel_rfl) (fun _ _ _ h => h) c3 ⟨.inl ⟨rfl, ?yy22⟩, fun _ => rfl⟩ ?_
  case yy22 =>
    rintro wx ⟨q1, q2⟩
    go_simp
    first | done | rfl
  refine takeC (i := 10) (v := ?vv23) (by kernel_rfl) (by kernel_rfl) rfl (by kernel_rfl) (by kernel_rfl) (by kernel_rfl) (fun _ _ _ h => h) c3 ⟨.inl ⟨rfl, ?yy23⟩, fun _ => rfl⟩ ?_
  case yy23 =>
    rintro wx ⟨q1, q2⟩
    go_simp
    first | done | rfl
  refine takeC (i := 11) (v := ?vv24) (by kernel_rfl) (by kernel_rfl) rfl (by kernel_rfl) (by kernel_rfl) (by kernel_rfl) (fun _ _ _ h => h) c3 ⟨.inl ⟨rfl, ?yy24⟩, fun _ => rfl⟩ ?_
  case yy24 =>
    rintro wx ⟨q1, q2⟩
    go_simp
    first | done | rfl
  refine takeC (i := 12) (v := ?vv25) (by kernel_rfl) (by kernel_rfl) rfl (by kernel_rfl) (by kernel_rfl) (by kernel_rfl) (fun _ _ _ h => h) c3 ⟨.inl ⟨rfl, ?yy25⟩, fun _ => rfl⟩ ?_
  case yy25 =>
    rintro wx ⟨q1, q2⟩
    go_simp
    first | done | rfl
  refine takeC (i := 13) (v := ?vv26) (by kernel_rfl) (by kernel_rfl) rfl (by kernel_rfl) (by kernel_rfl) (by kernel_rfl) (fun _ _ _ h => h) c3 ⟨.inl ⟨rfl, ?yy26⟩, fun _ => rfl⟩ ?_
  case yy26 =>
    rintro wx ⟨q1, q2⟩
    go_simp
    first | done | rfl
  refine takeC (i := 14) (v := ?vv27) (by kernel_rfl) (by kernel_rfl) rfl (by kernel_rfl) (by kernel_rfl) (by kernel_rfl) (fun _ _ _ h => h) c3 ⟨.inl ⟨rfl, ?yy27⟩, fun _ => rfl⟩ ?_
  case yy27 =>
    rintro wx ⟨q1, q2⟩
    go_simp
    first | done | rfl
  refine takeC (i := 18) (v := ?vv28) (by kernel_rfl) (by kernel_rfl) rfl (by kernel_rfl) (by kernel_rfl) (by kernel_rfl) (fun _ _ _ h => h) c3 ⟨.inl ⟨rfl, ?yy28⟩, fun _ => rfl⟩ ?_
  case yy28 =>
    rintro wx ⟨q1, q2⟩
    go_simp
    first | done | rfl
  refine takeC (i := 19) (v := ?vv29) (by kernel_rfl) (by kernel_rfl) rfl (by kernel_rfl) (by kernel_rfl) (by kernel_rfl) (fun _ _ _ h => h) c3 ⟨.inl ⟨rfl, ?yy29⟩, fun _ => rfl⟩ ?_
  case yy29 =>
    rintro wx ⟨q1, q2⟩
    go_simp
    first | done | rfl
  have hC3 : ∀ W W', (W.cell? ⟨mb, 0, none⟩ = some (.func (.func 87) #[] #[.pointer (some ⟨mb, 0, none⟩)]) ∧ Below W2.heap.size W2 W) → Below W.heap.size W W' → (W'.cell? ⟨mb, 0, none⟩ = some (.func (.func 87) #[] #[.pointer (some ⟨mb, 0, none⟩)]) ∧ Below W2.heap.size W2 W') := fun W W' hc hb =>
    ⟨(hb.cell (p := ⟨mb, 0, none⟩) (lt_of_cell hc.1)).trans hc.1, hc.2.trans (hb.mono hc.2.size)⟩
  have hta := val_lt (Lt_take ht k); have hda := val_lt (Lt_drop ht k); have htb := val_lt (Lt_take ht' k); have hdb := val_lt (Lt_drop ht' k)
  rw [ra.len] at hta; rw [ra2.len] at hda; rw [rb.len] at htb; rw [rb2.len] at hdb
  have hn1 : n1 ≤ 80000 := by
    rw [← hr1.len]
    refine Nat.le_trans (hi1.len (k := k + k) ?_) (by omega)
    rw [Nat.pow_add]
    exact Nat.mul_lt_mul_of_lt_of_le hta (Nat.le_of_lt htb) (Nat.pow_pos BB_pos)
  have hn2 : n2 ≤ 80000 := by
    rw [← hr2.len]
    refine Nat.le_trans (hi2.len (k := (n - k) + (n - k)) ?_) (by omega)
    rw [Nat.pow_add]
    exact Nat.mul_lt_mul_of_lt_of_le hda (Nat.le_of_lt hdb) (Nat.pow_pos BB_pos)
  have hsum : ∀ x y e f : Nat, x < BB ^ e → y < BB ^ f → e ≤ n - 2 → f ≤ n - 2 → x + y < BB ^ (n - 1) := by
    intro x y e f hx hy he hf
    have u1 : BB ^ e ≤ BB ^ (n - 2) := Nat.pow_le_pow_right BB_pos he
    have u2 : BB ^ f ≤ BB ^ (n - 2) := Nat.pow_le_pow_right BB_pos hf
    have u3 : BB ^ (n - 2) * 2 ≤ BB ^ (n - 2) * BB := Nat.mul_le_mul_left _ (by unfold BB; omega)
    have u4 : BB ^ (n - 1) = BB ^ (n - 2) * BB := by rw [← Nat.pow_succ]; congr 1; omega
    omega
  refine flowC (E := KE l l' l1 l2 k (val (l.take k) * val (l'.take k)) (val (l.drop k) * val (l'.drop k))) (by kernel_rfl) (by kernel_rfl) (by kernel_rfl) hC3 (KE_below _ _ _ _ _ _ _) ?hspec ?hfin _ _ _ _ (by kernel_rfl) (by kernel_rfl) (fun _ hh => hh) ⟨c3, rfl, rfl, fun _ _ => rfl, fun i o t hS => absurd hS (by intro hS; rw [hS.1] at hS; cases hS.2)⟩
  case hspec =>
    intro i oo hi hl b5 W5 hf K hK
    have hm := unlisted_mem [7, 8, 15, 16, 17, 20, 21, 22, 23] (by kernel_rfl) hl
    simp only [List.mem_cons, List.not_mem_nil, or_false] at hm
    have bW := b2.trans (hf.cls.2.mono b2.size)
    rcases hm with rfl | rfl | rfl | rfl | rfl | rfl | rfl | rfl | rfl
    · cases hi
      have k46 : b5.tmps[46]?.getD undef = .slice (some ⟨b, o, none⟩) k c := (Array.getD_eq_getD_getElem? ..).symm.trans ((hf.keep 46 (by kernel_rfl)).trans (by kernel_rfl))
      have k49 : b5.tmps[49]?.getD undef = .slice (some ⟨b, o + k, none⟩) (n - k) (c - k) := (Array.getD_eq_getD_getElem? ..).symm.trans ((hf.keep 49 (by kernel_rfl)).trans (by kernel_rfl))
      refine wpOpIn_step rfl (fun K' hK' => ?_)
      go_simp
      exact hK' _ _ (hK _ _ ⟨_, rfl, Rds.two (ra.below bW) (Lt_take ht k) (by omega) (ra2.below bW) (Lt_drop ht k) (by omega) _⟩ ((Below.refl _ W5).alloc (Nat.le_refl _) _))
    · cases hi
      have v7 := hf.vals 7 _ 50 ⟨by kernel_rfl, ⟨7, .data⟩, by simp, by kernel_rfl, rfl⟩ rfl rfl
      rw [Array.getD_eq_getD_getElem?] at v7
      obtain ⟨B, kB, hR⟩ := v7
      refine wpOpIn_step rfl (fun K' hK' => ?_)
      go_simp
      refine CallsIn.mono (callsIn_wide.2 (add_any B 2 2 _ W5 hR (by simp))) ?_
      rintro e W' ⟨A3, n3, c3, l3, rfl, hi3, hr3, hb3⟩
      exact hK' _ _ (hK _ _ ⟨A3, n3, c3, l3, rfl, by simpa using hi3, hr3⟩ hb3)
    · cases hi
      have k54 : b5.tmps[54]?.getD undef = .slice (some ⟨b', o', none⟩) k c' := (Array.getD_eq_getD_getElem? ..).symm.trans ((hf.keep 54 (by kernel_rfl)).trans (by kernel_rfl))
      have k57 : b5.tmps[57]?.getD undef = .slice (some ⟨b', o' + k, none⟩) (n - k) (c' - k) := (Array.getD_eq_getD_getElem? ..).symm.trans ((hf.keep 57 (by kernel_rfl)).trans (by kernel_rfl))
      refine wpOpIn_step rfl (fun K' hK' => ?_)
      go_simp
      exact hK' _ _ (hK _ _ ⟨_, rfl, Rds.two (rb.below bW) (Lt_take ht' k) (by omega) (rb2.below bW) (Lt_drop ht' k) (by omega) _⟩ ((Below.refl _ W5).alloc (Nat.le_refl _) _))
    · cases hi
      have v15 := hf.vals 15 _ 58 ⟨by kernel_rfl, ⟨15, .data⟩, by simp, by kernel_rfl, rfl⟩ rfl rfl
      rw [Array.getD_eq_getD_getElem?] at v15
      obtain ⟨B, kB, hR⟩ := v15
      refine wpOpIn_step rfl (fun K' hK' => ?_)
      go_simp
      refine CallsIn.mono (callsIn_wide.2 (add_any B 2 2 _ W5 hR (by simp))) ?_
      rintro e W' ⟨A3, n3, c3, l3, rfl, hi3, hr3, hb3⟩
      exact hK' _ _ (hK _ _ ⟨A3, n3, c3, l3, rfl, by simpa using hi3, hr3⟩ hb3)
    · cases hi
      have v8 := hf.vals 8 _ 51 ⟨by kernel_rfl, ⟨8, .data⟩, by simp, by kernel_rfl, rfl⟩ rfl rfl
      rw [Array.getD_eq_getD_getElem?] at v8
      obtain ⟨A3, n3, c3, l3, k51, hi3, hr3⟩ := v8
      have v16 := hf.vals 16 _ 59 ⟨by kernel_rfl, ⟨16, .data⟩, by simp, by kernel_rfl, rfl⟩ rfl rfl
      rw [Array.getD_eq_getD_getElem?] at v16
      obtain ⟨A4, n4, c4, l4, k59, hi4, hr4⟩ := v16
      have k43 : b5.tmps[43]?.getD undef = .func (.func 87) #[] #[.pointer (some ⟨mb, 0, none⟩)] := (Array.getD_eq_getD_getElem? ..).symm.trans ((hf.keep 43 (by kernel_rfl)).trans (by kernel_rfl))
      have i3 := ih mb A3 n3 c3 l3 A4 n4 c4 l4 W5 hr3 hr4 hi3.lt hi4.lt (by rw [← hr3.len]; exact hi3.len (hsum _ _ _ _ hta hda (by omega) (by omega))) (by rw [← hr4.len]; exact hi4.len (hsum _ _ _ _ htb hdb (by omega) (by omega))) hf.cls.1
      rw [hi3.val, hi4.val] at i3
      refine wpOpIn_step rfl (fun K' hK' => ?_)
      go_simp
      refine CallsIn.mono (callsIn_wide.2 i3) ?_
      rintro e W' ⟨A7, n7, c7, l7, rfl, hi7, hr7, hb7⟩
      exact hK' _ _ (hK _ _ ⟨A7, n7, c7, l7, rfl, hi7, hr7⟩ hb7)
    · cases hi
      have k61 : b5.tmps[61]?.getD undef = .slice A1 n1 c1 := (Array.getD_eq_getD_getElem? ..).symm.trans ((hf.keep 61 (by kernel_rfl)).trans (by kernel_rfl))
      have k62 : b5.tmps[62]?.getD undef = .slice A2 n2 c2 := (Array.getD_eq_getD_getElem? ..).symm.trans ((hf.keep 62 (by kernel_rfl)).trans (by kernel_rfl))
      refine wpOpIn_step rfl (fun K' hK' => ?_)
      go_simp
      exact hK' _ _ (hK _ _ ⟨_, rfl, Rds.two (hr1'.below hf.cls.2) hi1.lt (by omega) (hr2.below hf.cls.2) hi2.lt (by omega) _⟩ ((Below.refl _ W5).alloc (Nat.le_refl _) _))
    · cases hi
      have v20 := hf.vals 20 _ 63 ⟨by kernel_rfl, ⟨20, .data⟩, by simp, by kernel_rfl, rfl⟩ rfl rfl
      rw [Array.getD_eq_getD_getElem?] at v20
      obtain ⟨B, kB, hR⟩ := v20
      refine wpOpIn_step rfl (fun K' hK' => ?_)
      go_simp
      refine CallsIn.mono (callsIn_wide.2 (add_any B 2 2 _ W5 hR (by simp))) ?_
      rintro e W' ⟨A3, n3, c3, l3, rfl, hi3, hr3, hb3⟩
      exact hK' _ _ (hK _ _ ⟨A3, n3, c3, l3, rfl, by have e9 := hi3; simp only [List.map_cons, List.map_nil, List.sum_cons, List.sum_nil, Nat.add_zero, hi1.val, hi2.val] at e9; exact e9, hr3⟩ hb3)
    · cases hi
      have v17 := hf.vals 17 _ 60 ⟨by kernel_rfl, ⟨17, .data⟩, by simp, by kernel_rfl, rfl⟩ rfl rfl
      rw [Array.getD_eq_getD_getElem?] at v17
      obtain ⟨A3, n3, c3, l3, k60, hi3, hr3⟩ := v17
      have v21 := hf.vals 21 _ 64 ⟨by kernel_rfl, ⟨21, .data⟩, by simp, by kernel_rfl, rfl⟩ rfl rfl
      rw [Array.getD_eq_getD_getElem?] at v21
      obtain ⟨A4, n4, c4, l4, k64, hi4, hr4⟩ := v21
      have hsb := sub_any A3 n3 c3 l3 A4 n4 c4 l4 W5 hr3 hr4 hi3.lt hi4.lt (by rw [hi3.val, hi4.val]; exact kara_le _ _ _ _) (by rw [← hr3.len]; exact Nat.le_trans (hi3.len (k := (n - 1) + (n - 1)) (by rw [Nat.pow_add]; exact Nat.mul_lt_mul_of_lt_of_le (hsum _ _ _ _ hta hda (by omega) (by omega)) (Nat.le_of_lt (hsum _ _ _ _ htb hdb (by omega) (by omega))) (Nat.pow_pos BB_pos))) (by omega)) (by rw [← hr4.len]; exact Nat.le_trans (hi4.len (k := (n - 1) + (n - 1)) (Nat.lt_of_le_of_lt (kara_le _ _ _ _) (by rw [Nat.pow_add]; exact Nat.mul_lt_mul_of_lt_of_le (hsum _ _ _ _ hta hda (by omega) (by omega)) (Nat.le_of_lt (hsum _ _ _ _ htb hdb (by omega) (by omega))) (Nat.pow_pos BB_pos)))) (by omega))
      rw [hi3.val, hi4.val] at hsb
      have hls := pless_any A3 n3 c3 A4 n4 c4 W5 _ hsb
      refine wpOpIn_step rfl (fun K' hK' => ?_)
      go_simp
      refine CallsIn.mono (callsIn_wide.2 hls) ?_
      rintro e W' ⟨A7, n7, c7, l7, rfl, hi7, hr7, hb7⟩
      exact hK' _ _ (hK _ _ ⟨A7, n7, c7, l7, rfl, hi7, hr7⟩ hb7)
    · cases hi
      have v22 := hf.vals 22 _ 65 ⟨by kernel_rfl, ⟨22, .data⟩, by simp, by kernel_rfl, rfl⟩ rfl rfl
      rw [Array.getD_eq_getD_getElem?] at v22
      obtain ⟨A7, n7, c7, l7, k65, hi7, hr7⟩ := v22
      refine wpOpIn_step rfl (fun K' hK' => ?_)
      go_simp
      exact hK' _ _ (hK _ _ ⟨A7, n7, c7, l7, rfl, hi7, hr7⟩ (Below.refl _ W5))
  case hfin =>
    intro b5 W5 hf
    have v23 := hf.vals 23 _ 9 (by kernel_rfl) rfl rfl
    have hE := frame_eq [50, 51, 58, 59, 60, 63, 64, 65, 9] hf.size (fun t ht5 => hf.keep t (not_dst (by rw [show dstList _ _ = [50, 51, 58, 59, 60, 63, 64, 65, 9] from by kernel_rfl]; exact ht5)))
    have hcl5 := hf.cls.2
    obtain ⟨tm, df⟩ := b5
    obtain rfl : df = _ := hf.defers
    clear hf
    obtain ⟨A7, n7, c7, l7, hv9, hi7, hr7⟩ := v23
    simp only [List.foldl_cons, List.foldl_nil, hv9] at hE
    obtain ⟨u1, hu1⟩ : ∃ u, tm.getD 50 undef = u := ⟨_, rfl⟩
    obtain ⟨u2, hu2⟩ : ∃ u, tm.getD 51 undef = u := ⟨_, rfl⟩
    obtain ⟨u3, hu3⟩ : ∃ u, tm.getD 58 undef = u := ⟨_, rfl⟩
    obtain ⟨u4, hu4⟩ : ∃ u, tm.getD 59 undef = u := ⟨_, rfl⟩
    obtain ⟨u5, hu5⟩ : ∃ u, tm.getD 60 undef = u := ⟨_, rfl⟩
    obtain ⟨u6, hu6⟩ : ∃ u, tm.getD 63 undef = u := ⟨_, rfl⟩
    obtain ⟨u7, hu7⟩ : ∃ u, tm.getD 64 undef = u := ⟨_, rfl⟩
    obtain ⟨u8, hu8⟩ : ∃ u, tm.getD 65 undef = u := ⟨_, rfl⟩
    rw [hu1, hu2, hu3, hu4, hu5, hu6, hu7, hu8] at hE
    clear hu1 hu2 hu3 hu4 hu5 hu6 hu7 hu8 hv9
    rewrite [hE]
    clear hE
    rw [noPanic_normal]
    have bW := b2.trans (hcl5.mono b2.size)
    have hn7 : n7 ≤ 100000 := by
      rw [← hr7.len]
      exact Nat.le_trans (hi7.len (k := (n - 1) + (n - 1)) (Nat.lt_of_le_of_lt (Nat.sub_le _ _) (by rw [Nat.pow_add]; exact Nat.mul_lt_mul_of_lt_of_le (hsum _ _ _ _ hta hda (by omega) (by omega)) (Nat.le_of_lt (hsum _ _ _ _ htb hdb (by omega) (by omega))) (Nat.pow_pos BB_pos)))) (by omega)
    have e2k : ((2 * k : Nat) : Int) = 2 * (k : Int) := by omega
    have ab1 := above_any A7 n7 c7 l7 k W5 hr7 hn7 (by omega)
    have ab2 := fun (W : World) (hb : Below W5.heap.size W5 W) => above_any A2 n2 c2 l2 (2 * k) W ((hr2.below hcl5).below hb) (by omega) (by omega)
    rw [e2k] at ab2
    have hr1'' := hr1'.below hcl5
    have hval : val l1 + (BB ^ k * val l7 + (BB ^ (2 * k) * val l2 + 0)) = val l * val l' := by
      rw [val_take_drop l k (by rw [h.len]; omega), val_take_drop l' k (by rw [h'.len]; omega), kara, hi1.val, hi7.val, hi2.val, show BB ^ (2 * k) = BB ^ k * BB ^ k from by rw [← Nat.pow_add, Nat.two_mul]]
      omega
    have HVL := hid hval
    clear hval hta hda htb hdb
    have ML8 : ∀ {W : World} {A : Option Addr} {n8 c8 : Nat}, Rd W A n8 c8 (List.replicate k 0 ++ l7) → n8 ≤ 68719476736 := fun hr => by
      rw [← hr.len, List.length_append, List.length_replicate, hr7.len]
      omega
    have ML9 : ∀ {W : World} {A : Option Addr} {n9 c9 : Nat}, Rd W A n9 c9 (List.replicate (2 * k) 0 ++ l2) → n9 ≤ 68719476736 := fun hr => by
      rw [← hr.len, List.length_append, List.length_replicate, hr2.len]
      omega
    go_simp
    go_wp2_with (first | (go_at_call 90; first | ((with_reducible refine ab1.mono ?_); rintro e w8 ⟨A8, n8, c8, rfl, hr8, hb8⟩; have ab3 := ab2 w8 hb8) | ((with_reducible refine ab3.mono ?_); rintro e w9 ⟨A9, n9, c9, rfl, hr9, hb9⟩; have hr8' := hr8.below hb9; have hr19 := (hr1''.below hb8).below hb9; have hds := Rds.three hr19 hi1.lt (Nat.le_trans hn1 (by decide)) hr8' (Lt_append (Lt_replicate k) hi7.lt) (ML8 hr8) hr9 (Lt_append (Lt_replicate (2 * k)) hi2.lt) (ML9 hr9) 23; have hadd := add_any _ 3 3 _ _ hds (by decide))) | (go_at_call 75; refine hadd.mono ?_; rintro e wa ⟨Aa, na, ca, la, rfl, hia, hra, hba⟩))
    go_ret
    have b8 := bW.trans (hb8.mono bW.size)
    have b9 := b8.trans (hb9.mono b8.size)
    have ba := b9.alloc b9.size (Obj.cells #[Value.slice A1 n1 c1, Value.slice A8 n8 c8, Value.slice A9 n9 c9] 23)
    refine ⟨Aa, na, ca, la, rfl, ?_, hra, ba.trans (hba.mono ba.size)⟩
    have e9 := hia
    simp only [List.map_cons, List.map_nil, List.sum_cons, List.sum_nil, val_append, val_replicate, List.length_replicate, Nat.zero_add] at e9
    have h9 : val l1 + (BB ^ k * val l7 + (BB ^ (2 * k) * val l2 + 0)) = val l * val l' := HVL
    rw [h9] at e9
    exact e9

set_option maxRecDepth 100000 in
set_option maxHeartbeats 2000000 in
theorem kmul_p6 (mb : Nat) (b o n c : Nat) (l : List Nat) (b' o' c' : Nat) (l' : List Nat) (w : World) (h : Rd w (some ⟨b, o, none⟩) n c l) (h' : Rd w (some ⟨b', o', none⟩) n c' l') (ht : Lt l) (ht' : Lt l') (hn : n ≤ 40000) (k : Nat) (hk12 : k < 12)
    (hdiv : n / 2 = k) (h1 : k < n) (_h2 : k < n) (h3 : 12 < n) (_h4 : 12 < n) (ih : KMul (n - 1)) (hmb : w.cell? ⟨mb, 0, none⟩ = some (mulFn mb)) :
    Calls Tryd.prog 87 #[.slice (some ⟨b, o, none⟩) n c, .slice (some ⟨b', o', none⟩) n c', .pointer (some ⟨mb, 0, none⟩)] w (RetNat w (val l * val l')) := by
  have hmix : Tryd.prog.follows .mixedOrders = true := by kernel_rfl
  have hle := h.le; have hcap := h.cap; have hle' := h'.le; have hcap' := h'.cap
  have ra := h.take (k := k) (m := c) (by omega) (by omega) (Nat.le_refl _)
  have rb := h'.take (k := k) (m := c') (by omega) (by omega) (Nat.le_refl _)
  have ra2 : Rd w (some ⟨b, o + k, none⟩) (n - k) (c - k) (l.drop k) := by
    have := h.drop (k := k) (by omega)
    rw [if_neg (by omega)] at this
    simpa [Addr.add_lit] using this
  have rb2 : Rd w (some ⟨b', o' + k, none⟩) (n - k) (c' - k) (l'.drop k) := by
    have := h'.drop (k := k) (by omega)
    rw [if_neg (by omega)] at this
    simpa [Addr.add_lit] using this
  have hcl : ∀ W, Below w.heap.size w W → W.cell? ⟨mb, 0, none⟩ = some (mulFn mb) := fun W hb => (hb.cell (p := ⟨mb, 0, none⟩) (lt_of_cell hmb)).trans hmb
  have hen : ∀ args w, (callFunc 87 args).run Tryd.prog w = .ok (.enter 87 args) w := enters_of Tryd.func87 (by kernel_rfl) rfl
  have g1 : k ≤ c := by omega
  have g2 : k ≤ c' := by omega
  have g3 : k ≤ n := by omega
  have g4 : k ≤ n := by omega
  have g5 : ¬ c = k := by omega
  have g6 : ¬ c' = k := by omega
  have hdi : (n : Int) / 2 = (k : Int) := by omega
  go_enter Tryd.func87, Tryd.ntmps87
  go_wp2
  refine (wpIn_wide (n := 0)).1 ?_
  refine wpIn_region_C 100 (fun W => W.cell? ⟨mb, 0, none⟩ = some (.func (.func 87) #[] #[.pointer (some ⟨mb, 0, none⟩)])) hmix ?_
  have b0 : Below w.heap.size w w.drew := (Below.refl _ w).drew
  have c0 := hcl _ b0
  unfold mulFn at c0
  refine takeC (i := 0) (v := ?vv30) (by kernel_rfl) (by kernel_rfl) rfl (by kernel_rfl) (by kernel_rfl) (by kernel_rfl) (fun _ _ _ h => h) c0 ⟨.inl ⟨rfl, ?yy30⟩, fun _ => rfl⟩ ?_
  case yy30 =>
    rintro wx q1
    go_simp
    first | done | rfl
  refine takeC (i := 1) (v := ?vv31) (by kernel_rfl) (by kernel_rfl) rfl (by kernel_rfl) (by kernel_rfl) (by kernel_rfl) (fun _ _ _ h => h) c0 ⟨.inl ⟨rfl, ?yy31⟩, fun _ => rfl⟩ ?_
  case yy31 =>
    rintro wx q1
    go_simp
    first | done | rfl
  refine takeC (i := 2) (v := ?vv32) (by kernel_rfl) (by kernel_rfl) rfl (by kernel_rfl) (by kernel_rfl) (by kernel_rfl) (fun _ _ _ h => h) c0 ⟨.inl ⟨rfl, ?yy32⟩, fun _ => rfl⟩ ?_
  case yy32 =>
    rintro wx q1
    go_simp
    first | done | rfl
  refine takeC (i := 3) (v := ?vv33) (by kernel_rfl) (by kernel_rfl) rfl (by kernel_rfl) (by kernel_rfl) (by kernel_rfl) (fun _ _ _ h => h) c0 ⟨.inl ⟨rfl, ?yy33⟩, fun _ => rfl⟩ ?_
  case yy33 =>
    rintro wx q1
    go_simp
    first | done | rfl
  refine takeC (i := 4) (v := ?vv34) (by kernel_rfl) (by kernel_rfl) rfl (by kernel_rfl) (by kernel_rfl) (by kernel_rfl) (fun _ _ _ h => h) c0 ⟨.inl ⟨rfl, ?yy34⟩, fun _ => rfl⟩ ?_
  case yy34 =>
    rintro wx q1
    go_simp
    first | done | rfl
  refine takeC (i := 5) (v := ?vv35) (by kernel_rfl) (by kernel_rfl) rfl (by kernel_rfl) (by kernel_rfl) (by kernel_rfl) (fun _ _ _ h => h) c0 ⟨.inl ⟨rfl, ?yy35⟩, fun _ => rfl⟩ ?_
  case yy35 =>
    rintro wx q1
    go_simp
    first | done | rfl
  refine takeC (i := 6) (v := ?vv36) (by kernel_rfl) (by kernel_rfl) rfl (by kernel_rfl) (by kernel_rfl) (by kernel_rfl) (fun _ _ _ h => h) c0 ⟨.inl ⟨rfl, ?yy36⟩, fun _ => rfl⟩ ?_
  case yy36 =>
    rintro wx q1
    go_simp
    first | done | rfl
  refine takeC (i := 8) (v := ?vv37) (by kernel_rfl) (by kernel_rfl) rfl (by kernel_rfl) (by kernel_rfl) (by kernel_rfl) (fun _ _ _ h => h) c0 ⟨.inl ⟨rfl, ?yy37⟩, fun _ => rfl⟩ ?_
  case yy37 =>
    rintro wx q1
    go_simp
    first | done | rfl
  refine takeC (i := 9) (v := ?vv38) (by kernel_rfl) (by kernel_rfl) rfl (by kernel_rfl) (by kernel_rfl) (by kernel_rfl) (fun _ _ _ h => h) c0 ⟨.inl ⟨rfl, ?yy38⟩, fun _ => rfl⟩ ?_
  case yy38 =>
    rintro wx q1
    go_simp
    first | done | rfl
  refine takeC (i := 10) (v := ?vv39) (by kernel_rfl) (by kernel_rfl) rfl (by kernel_rfl) (by kernel_rfl) (by kernel_rfl) (fun _ _ _ h => h) c0 ⟨.inl ⟨rfl, ?yy39⟩, fun _ => rfl⟩ ?_
  case yy39 =>
    rintro wx q1
    go_simp
    first | done | rfl
  refine takeC (i := 11) (v := ?vv40) (by kernel_rfl) (by kernel_rfl) rfl (by kernel_rfl) (by kernel_rfl) (by kernel_rfl) (fun _ _ _ h => h) c0 ⟨.inl ⟨rfl, ?yy40⟩, fun _ => rfl⟩ ?_
  case yy40 =>
    rintro wx q1
    go_simp
    first | done | rfl
  refine takeC (i := 12) (v := ?vv41) (by kernel_rfl) (by kernel_rfl) rfl (by kernel_rfl) (by kernel_rfl) (by kernel_rfl) (fun _ _ _ h => h) c0 ⟨.inl ⟨rfl, ?yy41⟩, fun _ => rfl⟩ ?_
  case yy41 =>
    rintro wx q1
    go_simp
    first | done | rfl
  refine takeC (i := 13) (v := ?vv42) (by kernel_rfl) (by kernel_rfl) rfl (by kernel_rfl) (by kernel_rfl) (by kernel_rfl) (fun _ _ _ h => h) c0 ⟨.inl ⟨rfl, ?yy42⟩, fun _ => rfl⟩ ?_
  case yy42 =>
    rintro wx q1
    go_simp
    first | done | rfl
  refine takeC (i := 14) (v := ?vv43) (by kernel_rfl) (by kernel_rfl) rfl (by kernel_rfl) (by kernel_rfl) (by kernel_rfl) (fun _ _ _ h => h) c0 ⟨.inl ⟨rfl, ?yy43⟩, fun _ => rfl⟩ ?_
  case yy43 =>
    rintro wx q1
    go_simp
    first | done | rfl
  have i1 := ih mb _ _ _ _ _ _ _ _ w.drew (ra.below b0) (rb.below b0) (Lt_take ht k) (Lt_take ht' k) (by omega) (by omega) (hcl _ b0)
  refine oneC (i := 7) (by kernel_rfl) rfl (fun K hK => ?_)
  go_simp
  refine CallsIn.mono (callsIn_wide.2 i1) ?_
  rintro e W1 ⟨A1, n1, c1, l1, rfl, hi1, hr1, hb1⟩
  have b1 := b0.trans (hb1.mono b0.size)
  have c1' := hcl _ b1
  unfold mulFn at c1'
  refine hK _ _ (.inr c1') ?_
  clear hK K i1
  have i2 := ih mb _ _ _ _ _ _ _ _ W1 (ra2.below b1) (rb2.below b1) (Lt_drop ht k) (Lt_drop ht' k) (by omega) (by omega) (hcl _ b1)
  refine oneC (i := 15) (by kernel_rfl) rfl (fun K hK => ?_)
  go_simp
  refine CallsIn.mono (callsIn_wide.2 i2) ?_
  rintro e W2 ⟨A2, n2, c2, l2, rfl, hi2, hr2, hb2⟩
  have b2 := b1.trans (hb2.mono b1.size)
  have c2' := hcl _ b2
  unfold mulFn at c2'
  refine hK _ _ (.inr c2') ?_
  clear hK K i2
  refine oneC (i := 16) (by kernel_rfl) rfl (fun K hK => ?_)
  go_simp
  refine hK _ _ (.inr c2') ?_
  clear hK K
  refine oneC (i := 17) (by kernel_rfl) rfl (fun K hK => ?_)
  go_simp
  refine hK _ _ (.inr c2') ?_
  clear hK K
  refine doneP (by kernel_rfl) ?_
  have hr1' := hr1.below hb2
  go_wp2
  refine (wpIn_wide (n := 0)).1 ?_
  refine wpIn_region_C 100 (fun W => W.cell? ⟨mb, 0, none⟩ = some (.func (.func 87) #[] #[.pointer (some ⟨mb, 0, none⟩)]) ∧ Below W2.heap.size W2 W) hmix ?_
  have b3 : Below W2.heap.size W2 W2.drew := (Below.refl _ W2).drew
  have c3 := And.intro c2' b3
  refine takeC (i := 0) (v := ?vv44) (by kernel_rfl) (by kernel_rfl) rfl (by kernel_rfl) (by kernel_rfl) (by kernel_rfl) (fun _ _ _ h => h) c3 ⟨.inl ⟨rfl, ?yy44⟩, fun _ => rfl⟩ ?_
  case yy44 =>
    rintro wx ⟨q1, q2⟩
    go_simp
    first | done | rfl
  refine takeC (i := 1) (v := ?vv45) (by kernel_rfl) (by kernel_rfl) rfl (by kernel_rfl) (by kernel_rfl) (by kernel_rfl) (fun _ _ _ h => h) c3 ⟨.inl ⟨rfl, ?yy45⟩, fun _ => rfl⟩ ?_
  case yy45 =>
    rintro wx ⟨q1, q2⟩
    go_simp
    first | done | rfl
  refine takeC (i := 2) (v := ?vv46) (by kernel_rfl) (by kernel_rfl) rfl (by kernel_rfl) (by kernel_rfl) (by kernel_rfl) (fun _ _ _ h => h) c3 ⟨.inl ⟨rfl, ?yy46⟩, fun _ => rfl⟩ ?_
  case yy46 =>
    rintro wx ⟨q1, q2⟩
    go_simp
    first | done | rfl
  refine takeC (i := 3) (v := ?vv47) (by kernel_rfl) (by kernel_rfl) rfl (by kernel_rfl) (by kernel_rfl) (by kernel_rfl) (fun _ _ _ h => h) c3 ⟨.inl ⟨rfl, ?yy47⟩, fun _ => rfl⟩ ?_
  case yy47 =>
    rintro wx ⟨q1, q2⟩
    go_simp
    first | done | rfl
  refine takeC (i := 4) (v := ?vv48) (by kernel_rfl) (by kernel_rfl) rfl (by kernel_rfl) (by kernel_rfl) (by kernel_rfl) (fun _ _ _ h => h) c3 ⟨.inl ⟨rfl, ?yy48⟩, fun _ => rfl⟩ ?_
  case yy48 =>
    rintro wx ⟨q1, q2⟩
    go_simp
    first | done | rfl
  refine takeC (i := 5) (v := ?vv49) (by kernel_rfl) (by kernel_rfl) rfl (by kernel_rfl) (by kernel_rfl) (by kernel_rfl) (fun _ _ _ h => h) c3 ⟨.inl ⟨rfl, ?yy49⟩, fun _ => rfl⟩ ?_
  case yy49 =>
    rintro wx ⟨q1, q2⟩
    go_simp
    first | done | rfl
  refine takeC (i := 6) (v := ?vv50) (by kernel_rfl) (by kernel_rfl) rfl (by kernel_rfl) (by kernel_rfl) (by kernel_rfl) (fun _ _ _ h => h) c3 ⟨.inl ⟨rfl, ?yy50⟩, fun _ => rfl⟩ ?_
  case yy50 =>
    rintro wx ⟨q1, q2⟩
    go_simp
    first | done | rfl
  refine takeC (i := 9) (v := ?vv51) (by kernel_rfl) (by kernel_rfl) rfl (by kernel_rfl) (by kernel_rfl) (by kernel_rfl) (fun _ _ _ h => h) c3 ⟨.inl ⟨rfl, ?yy51⟩, fun _ => rfl⟩ ?_
  case yy51 =>
    rintro wx ⟨q1, q2⟩
    go_simp
    first | done | rfl
  refine takeC (i := 10) (v := ?vv52) (by kernel_rfl) (by kernel_rfl) rfl (by kernel_rfl) (by kernel_rfl) (by kernel_rfl) (fun _ _ _ h => h) c3 ⟨.inl ⟨rfl, ?yy52⟩, fun _ => rfl⟩ ?_
  case yy52 =>
    rintro wx ⟨q1, q2⟩
    go_simp
    first | done | rfl
  refine takeC (i := 11) (v := ?vv53) (by kernel_rfl) (by kernel_rfl) rfl (by kernel_rfl) (by kernel_rfl) (by kernel_rfl) (fun _ _ _ h => h) c3 ⟨.inl ⟨rfl, ?yy53⟩, fun _ => rfl⟩ ?_
  case yy53 =>
    rintro wx ⟨q1, q2⟩
    go_simp
    first | done | rfl
  refine takeC (i := 12) (v := ?vv54) (by kernel_rfl) (by kernel_rfl) rfl (by kernel_rfl) (by kernel_rfl) (by kernel_rfl) (fun _ _ _ h => h) c3 ⟨.inl ⟨rfl, ?yy54⟩, fun _ => rfl⟩ ?_
  case yy54 =>
    rintro wx ⟨q1, q2⟩
    go_simp
    first | done | rfl
  refine takeC (i := 13) (v := ?vv55) (by kernel_rfl) (by kernel_rfl) rfl (by kernel_rfl) (by kernel_rfl) (by kernel_rfl) (fun _ _ _ h => h) c3 ⟨.inl ⟨rfl, ?yy55⟩, fun _ => rfl⟩ ?_
  case yy55 =>
    rintro wx ⟨q1, q2⟩
    go_simp
    first | done | rfl
  refine takeC (i := 14) (v := ?vv56) (by kernel_rfl) (by kernel_rfl) rfl (by kernel_rfl) (by kernel_rfl) (by kernel_rfl) (fun _ _ _ h => h) c3 ⟨.inl ⟨rfl, ?yy56⟩, fun _ => rfl⟩ ?_
  case yy56 =>
    rintro wx ⟨q1, q2⟩
    go_simp
    first | done | rfl
  refine takeC (i := 18) (v := ?vv57) (by kernel_rfl) (by kernel_rfl) rfl (by kernel_rfl) (by kernel_rfl) (by kernel_rfl) (fun _ _ _ h => h) c3 ⟨.inl ⟨rfl, ?yy57⟩, fun _ => rfl⟩ ?_
  case yy57 =>
    rintro wx ⟨q1, q2⟩
    go_simp
    first | done | rfl
  refine takeC (i := 19) (v := ?vv58) (by kernel_rfl) (by kernel_rfl) rfl (by kernel_rfl) (by kernel_rfl) (by kernel_rfl) (fun _ _ _ h => h) c3 ⟨.inl ⟨rfl, ?yy58⟩, fun _ => rfl⟩ ?_
  case yy58 =>
    rintro wx ⟨q1, q2⟩
    go_simp
    first | done | rfl
  have hC3 : ∀ W W', (W.cell? ⟨mb, 0, none⟩ = some (.func (.func 87) #[] #[.pointer (some ⟨mb, 0, none⟩)]) ∧ Below W2.heap.size W2 W) → Below W.heap.size W W' → (W'.cell? ⟨mb, 0, none⟩ = some (.func (.func 87) #[] #[.pointer (some ⟨mb, 0, none⟩)]) ∧ Below W2.heap.size W2 W') := fun W W' hc hb =>
    ⟨(hb.cell (p := ⟨mb, 0, none⟩) (lt_of_cell hc.1)).trans hc.1, hc.2.trans (hb.mono hc.2.size)⟩
  have hta := val_lt (Lt_take ht k); have hda := val_lt (Lt_drop ht k); have htb := val_lt (Lt_take ht' k); have hdb := val_lt (Lt_drop ht' k)
  rw [ra.len] at hta; rw [ra2.len] at hda; rw [rb.len] at htb; rw [rb2.len] at hdb
  have hn1 : n1 ≤ 80000 := by
    rw [← hr1.len]
    refine Nat.le_trans (hi1.len (k := k + k) ?_) (by omega)
    rw [Nat.pow_add]
    exact Nat.mul_lt_mul_of_lt_of_le hta (Nat.le_of_lt htb) (Nat.pow_pos BB_pos)
  have hn2 : n2 ≤ 80000 := by
    rw [← hr2.len]
    refine Nat.le_trans (hi2.len (k := (n - k) + (n - k)) ?_) (by omega)
    rw [Nat.pow_add]
    exact Nat.mul_lt_mul_of_lt_of_le hda (Nat.le_of_lt hdb) (Nat.pow_pos BB_pos)
  have hsum : ∀ x y e f : Nat, x < BB ^ e → y < BB ^ f → e ≤ n - 2 → f ≤ n - 2 → x + y < BB ^ (n - 1) := by
    intro x y e f hx hy he hf
    have u1 : BB ^ e ≤ BB ^ (n - 2) := Nat.pow_le_pow_right BB_pos he
    have u2 : BB ^ f ≤ BB ^ (n - 2) := Nat.pow_le_pow_right BB_pos hf
    have u3 : BB ^ (n - 2) * 2 ≤ BB ^ (n - 2) * BB := Nat.mul_le_mul_left _ (by unfold BB; omega)
    have u4 : BB ^ (n - 1) = BB ^ (n - 2) * BB := by rw [← Nat.pow_succ]; congr 1; omega
    omega
  refine flowC (E := KE l l' l1 l2 k (val (l.take k) * val (l'.take k)) (val (l.drop k) * val (l'.drop k))) (by kernel_rfl) (by kernel_rfl) (by kernel_rfl) hC3 (KE_below _ _ _ _ _ _ _) ?hspec ?hfin _ _ _ _ (by kernel_rfl) (by kernel_rfl) (fun _ hh => hh) ⟨c3, rfl, rfl, fun _ _ => rfl, fun i o t hS => absurd hS (by intro hS; rw [hS.1] at hS; cases hS.2)⟩
  case hspec =>
    intro i oo hi hl b5 W5 hf K hK
    have hm := unlisted_mem [7, 8, 15, 16, 17, 20, 21, 22, 23] (by kernel_rfl) hl
    simp only [List.mem_cons, List.not_mem_nil, or_false] at hm
    have bW := b2.trans (hf.cls.2.mono b2.size)
    rcases hm with rfl | rfl | rfl | rfl | rfl | rfl | rfl | rfl | rfl
    · cases hi
      have k46 : b5.tmps[46]?.getD undef = .slice (some ⟨b, o, none⟩) k c := (Array.getD_eq_getD_getElem? ..).symm.trans ((hf.keep 46 (by kernel_rfl)).trans (by kernel_rfl))
      have k49 : b5.tmps[49]?.getD undef = .slice (some ⟨b, o + k, none⟩) (n - k) (c - k) := (Array.getD_eq_getD_getElem? ..).symm.trans ((hf.keep 49 (by kernel_rfl)).trans (by kernel_rfl))
      refine wpOpIn_step rfl (fun K' hK' => ?_)
      go_simp
      exact hK' _ _ (hK _ _ ⟨_, rfl, Rds.two (ra.below bW) (Lt_take ht k) (by omega) (ra2.below bW) (Lt_drop ht k) (by omega) _⟩ ((Below.refl _ W5).alloc (Nat.le_refl _) _))
    · cases hi
      have v7 := hf.vals 7 _ 50 ⟨by kernel_rfl, ⟨7, .data⟩, by simp, by kernel_rfl, rfl⟩ rfl rfl
      rw [Array.getD_eq_getD_getElem?] at v7
      obtain ⟨B, kB, hR⟩ := v7
      refine wpOpIn_step rfl (fun K' hK' => ?_)
      go_simp
      refine CallsIn.mono (callsIn_wide.2 (add_any B 2 2 _ W5 hR (by simp))) ?_
      rintro e W' ⟨A3, n3, c3, l3, rfl, hi3, hr3, hb3⟩
      exact hK' _ _ (hK _ _ ⟨A3, n3, c3, l3, rfl, by simpa using hi3, hr3⟩ hb3)
    · cases hi
      have k54 : b5.tmps[54]?.getD undef = .slice (some ⟨b', o', none⟩) k c' := (Array.getD_eq_getD_getElem? ..).symm.trans ((hf.keep 54 (by kernel_rfl)).trans (by kernel_rfl))
      have k57 : b5.tmps[57]?.getD undef = .slice (some ⟨b', o' + k, none⟩) (n - k) (c' - k) := (Array.getD_eq_getD_getElem? ..).symm.trans ((hf.keep 57 (by kernel_rfl)).trans (by kernel_rfl))
      refine wpOpIn_step rfl (fun K' hK' => ?_)
      go_simp
      exact hK' _ _ (hK _ _ ⟨_, rfl, Rds.two (rb.below bW) (Lt_take ht' k) (by omega) (rb2.below bW) (Lt_drop ht' k) (by omega) _⟩ ((Below.refl _ W5).alloc (Nat.le_refl _) _))
    · cases hi
      have v15 := hf.vals 15 _ 58 ⟨by kernel_rfl, ⟨15, .data⟩, by simp, by kernel_rfl, rfl⟩ rfl rfl
      rw [Array.getD_eq_getD_getElem?] at v15
      obtain ⟨B, kB, hR⟩ := v15
      refine wpOpIn_step rfl (fun K' hK' => ?_)
      go_simp
      refine CallsIn.mono (callsIn_wide.2 (add_any B 2 2 _ W5 hR (by simp))) ?_
      rintro e W' ⟨A3, n3, c3, l3, rfl, hi3, hr3, hb3⟩
      exact hK' _ _ (hK _ _ ⟨A3, n3, c3, l3, rfl, by simpa using hi3, hr3⟩ hb3)
    · cases hi
      have v8 := hf.vals 8 _ 51 ⟨by kernel_rfl, ⟨8, .data⟩, by simp, by kernel_rfl, rfl⟩ rfl rfl
      rw [Array.getD_eq_getD_getElem?] at v8
      obtain ⟨A3, n3, c3, l3, k51, hi3, hr3⟩ := v8
      have v16 := hf.vals 16 _ 59 ⟨by kernel_rfl, ⟨16, .data⟩, by simp, by kernel_rfl, rfl⟩ rfl rfl
      rw [Array.getD_eq_getD_getElem?] at v16
      obtain ⟨A4, n4, c4, l4, k59, hi4, hr4⟩ := v16
      have k43 : b5.tmps[43]?.getD undef = .func (.func 87) #[] #[.pointer (some ⟨mb, 0, none⟩)] := (Array.getD_eq_getD_getElem? ..).symm.trans ((hf.keep 43 (by kernel_rfl)).trans (by kernel_rfl))
      have i3 := ih mb A3 n3 c3 l3 A4 n4 c4 l4 W5 hr3 hr4 hi3.lt hi4.lt (by rw [← hr3.len]; exact hi3.len (hsum _ _ _ _ hta hda (by omega) (by omega))) (by rw [← hr4.len]; exact hi4.len (hsum _ _ _ _ htb hdb (by omega) (by omega))) hf.cls.1
      rw [hi3.val, hi4.val] at i3
      refine wpOpIn_step rfl (fun K' hK' => ?_)
      go_simp
      refine CallsIn.mono (callsIn_wide.2 i3) ?_
      rintro e W' ⟨A7, n7, c7, l7, rfl, hi7, hr7, hb7⟩
      exact hK' _ _ (hK _ _ ⟨A7, n7, c7, l7, rfl, hi7, hr7⟩ hb7)
    · cases hi
      have k61 : b5.tmps[61]?.getD undef = .slice A1 n1 c1 := (Array.getD_eq_getD_getElem? ..).symm.trans ((hf.keep 61 (by kernel_rfl)).trans (by kernel_rfl))
      have k62 : b5.tmps[62]?.getD undef = .slice A2 n2 c2 := (Array.getD_eq_getD_getElem? ..).symm.trans ((hf.keep 62 (by kernel_rfl)).trans (by kernel_rfl))
      refine wpOpIn_step rfl (fun K' hK' => ?_)
      go_simp
      exact hK' _ _ (hK _ _ ⟨_, rfl, Rds.two (hr1'.below hf.cls.2) hi1.lt (by omega) (hr2.below hf.cls.2) hi2.lt (by omega) _⟩ ((Below.refl _ W5).alloc (Nat.le_refl _) _))
    · cases hi
      have v20 := hf.vals 20 _ 63 ⟨by kernel_rfl, ⟨20, .data⟩, by simp, by kernel_rfl, rfl⟩ rfl rfl
      rw [Array.getD_eq_getD_getElem?] at v20
      obtain ⟨B, kB, hR⟩ := v20
      refine wpOpIn_step rfl (fun K' hK' => ?_)
      go_simp
      refine CallsIn.mono (callsIn_wide.2 (add_any B 2 2 _ W5 hR (by simp))) ?_
      rintro e W' ⟨A3, n3, c3, l3, rfl, hi3, hr3, hb3⟩
      exact hK' _ _ (hK _ _ ⟨A3, n3, c3, l3, rfl, by have e9 := hi3; simp only [List.map_cons, List.map_nil, List.sum_cons, List.sum_nil, Nat.add_zero, hi1.val, hi2.val] at e9; exact e9, hr3⟩ hb3)
    · cases hi
      have v17 := hf.vals 17 _ 60 ⟨by kernel_rfl, ⟨17, .data⟩, by simp, by kernel_rfl, rfl⟩ rfl rfl
      rw [Array.getD_eq_getD_getElem?] at v17
      obtain ⟨A3, n3, c3, l3, k60, hi3, hr3⟩ := v17
      have v21 := hf.vals 21 _ 64 ⟨by kernel_rfl, ⟨21, .data⟩, by simp, by kernel_rfl, rfl⟩ rfl rfl
      rw [Array.getD_eq_getD_getElem?] at v21
      obtain ⟨A4, n4, c4, l4, k64, hi4, hr4⟩ := v21
      have hsb := sub_any A3 n3 c3 l3 A4 n4 c4 l4 W5 hr3 hr4 hi3.lt hi4.lt (by rw [hi3.val, hi4.val]; exact kara_le _ _ _ _) (by rw [← hr3.len]; exact Nat.le_trans (hi3.len (k := (n - 1) + (n - 1)) (by rw [Nat.pow_add]; exact Nat.mul_lt_mul_of_lt_of_le (hsum _ _ _ _ hta hda (by omega) (by omega)) (Nat.le_of_lt (hsum _ _ _ _ htb hdb (by omega) (by omega))) (Nat.pow_pos BB_pos))) (by omega)) (by rw [← hr4.len]; exact Nat.le_trans (hi4.len (k := (n - 1) + (n - 1)) (Nat.lt_of_le_of_lt (kara_le _ _ _ _) (by rw [Nat.pow_add]; exact Nat.mul_lt_mul_of_lt_of_le (hsum _ _ _ _ hta hda (by omega) (by omega)) (Nat.le_of_lt (hsum _ _ _ _ htb hdb (by omega) (by omega))) (Nat.pow_pos BB_pos)))) (by omega))
      rw [hi3.val, hi4.val] at hsb
      have hls := pless_any A3 n3 c3 A4 n4 c4 W5 _ hsb
      refine wpOpIn_step rfl (fun K' hK' => ?_)
      go_simp
      refine CallsIn.mono (callsIn_wide.2 hls) ?_
      rintro e W' ⟨A7, n7, c7, l7, rfl, hi7, hr7, hb7⟩
      exact hK' _ _ (hK _ _ ⟨A7, n7, c7, l7, rfl, hi7, hr7⟩ hb7)
    · cases hi
      have v22 := hf.vals 22 _ 65 ⟨by kernel_rfl, ⟨22, .data⟩, by simp, by kernel_rfl, rfl⟩ rfl rfl
      rw [Array.getD_eq_getD_getElem?] at v22
      obtain ⟨A7, n7, c7, l7, k65, hi7, hr7⟩ := v22
      refine wpOpIn_step rfl (fun K' hK' => ?_)
      go_simp
      exact hK' _ _ (hK _ _ ⟨A7, n7, c7, l7, rfl, hi7, hr7⟩ (Below.refl _ W5))
  case hfin =>
    intro b5 W5 hf
    have v23 := hf.vals 23 _ 9 (by kernel_rfl) rfl rfl
    have hE := frame_eq [50, 51, 58, 59, 60, 63, 64, 65, 9] hf.size (fun t ht5 => hf.keep t (not_dst (by rw [show dstList _ _ = [50, 51, 58, 59, 60, 63, 64, 65, 9] from by kernel_rfl]; exact ht5)))
    have hcl5 := hf.cls.2
    obtain ⟨tm, df⟩ := b5
    obtain rfl : df = _ := hf.defers
    clear hf
    obtain ⟨A7, n7, c7, l7, hv9, hi7, hr7⟩ := v23
    simp only [List.foldl_cons, List.foldl_nil, hv9] at hE
    obtain ⟨u1, hu1⟩ : ∃ u, tm.getD 50 undef = u := ⟨_, rfl⟩
    obtain ⟨u2, hu2⟩ : ∃ u, tm.getD 51 undef = u := ⟨_, rfl⟩
    obtain ⟨u3, hu3⟩ : ∃ u, tm.getD 58 undef = u := ⟨_, rfl⟩
    obtain ⟨u4, hu4⟩ : ∃ u, tm.getD 59 undef = u := ⟨_, rfl⟩
    obtain ⟨u5, hu5⟩ : ∃ u, tm.getD 60 undef = u := ⟨_, rfl⟩
    obtain ⟨u6, hu6⟩ : ∃ u, tm.getD 63 undef = u := ⟨_, rfl⟩
    obtain ⟨u7, hu7⟩ : ∃ u, tm.getD 64 undef = u := ⟨_, rfl⟩
    obtain ⟨u8, hu8⟩ : ∃ u, tm.getD 65 undef = u := ⟨_, rfl⟩
    rw [hu1, hu2, hu3, hu4, hu5, hu6, hu7, hu8] at hE
    clear hu1 hu2 hu3 hu4 hu5 hu6 hu7 hu8 hv9
    rewrite [hE]
    clear hE
    rw [noPanic_normal]
    have bW := b2.trans (hcl5.mono b2.size)
    have hn7 : n7 ≤ 100000 := by
      rw [← hr7.len]
      exact Nat.le_trans (hi7.len (k := (n - 1) + (n - 1)) (Nat.lt_of_le_of_lt (Nat.sub_le _ _) (by rw [Nat.pow_add]; exact Nat.mul_lt_mul_of_lt_of_le (hsum _ _ _ _ hta hda (by omega) (by omega)) (Nat.le_of_lt (hsum _ _ _ _ htb hdb (by omega) (by omega))) (Nat.pow_pos BB_pos)))) (by omega)
    have e2k : ((2 * k : Nat) : Int) = 2 * (k : Int) := by omega
    have ab1 := above_any A7 n7 c7 l7 k W5 hr7 hn7 (by omega)
    have ab2 := fun (W : World) (hb : Below W5.heap.size W5 W) => above_any A2 n2 c2 l2 (2 * k) W ((hr2.below hcl5).below hb) (by omega) (by omega)
    rw [e2k] at ab2
    have hr1'' := hr1'.below hcl5
    have hval : val l1 + (BB ^ k * val l7 + (BB ^ (2 * k) * val l2 + 0)) = val l * val l' := by
      rw [val_take_drop l k (by rw [h.len]; omega), val_take_drop l' k (by rw [h'.len]; omega), kara, hi1.val, hi7.val, hi2.val, show BB ^ (2 * k) = BB ^ k * BB ^ k from by rw [← Nat.pow_add, Nat.two_mul]]
      omega
    have HVL := hid hval
    clear hval hta hda htb hdb
    have ML8 : ∀ {W : World} {A : Option Addr} {n8 c8 : Nat}, Rd W A n8 c8 (List.replicate k 0 ++ l7) → n8 ≤ 68719476736 := fun hr => by
      rw [← hr.len, List.length_append, List.length_replicate, hr7.len]
      omega
    have ML9 : ∀ {W : World} {A : Option Addr} {n9 c9 : Nat}, Rd W A n9 c9 (List.replicate (2 * k) 0 ++ l2) → n9 ≤ 68719476736 := fun hr => by
      rw [← hr.len, List.length_append, List.length_replicate, hr2.len]
      omega
    go_simp
    go_wp2_with (first | (go_at_call 90; first | ((with_reducible refine ab1.mono ?_); rintro e w8 ⟨A8, n8, c8, rfl, hr8, hb8⟩; have ab3 := ab2 w8 hb8) | ((with_reducible refine ab3.mono ?_); rintro e w9 ⟨A9, n9, c9, rfl, hr9, hb9⟩; have hr8' := hr8.below hb9; have hr19 := (hr1''.below hb8).below hb9; have hds := Rds.three hr19 hi1.lt (Nat.le_trans hn1 (by decide)) hr8' (Lt_append (Lt_replicate k) hi7.lt) (ML8 hr8) hr9 (Lt_append (Lt_replicate (2 * k)) hi2.lt) (ML9 hr9) 23; have hadd := add_any _ 3 3 _ _ hds (by decide))) | (go_at_call 75; refine hadd.mono ?_; rintro e wa ⟨Aa, na, ca, la, rfl, hia, hra, hba⟩))
    go_ret
    have b8 := bW.trans (hb8.mono bW.size)
    have b9 := b8.trans (hb9.mono b8.size)
    have ba := b9.alloc b9.size (Obj.cells #[Value.slice A1 n1 c1, Value.slice A8 n8 c8, Value.slice A9 n9 c9] 23)
    refine ⟨Aa, na, ca, la, rfl, ?_, hra, ba.trans (hba.mono ba.size)⟩
    have e9 := hia
    simp only [List.map_cons, List.map_nil, List.sum_cons, List.sum_nil, val_append, val_replicate, List.length_replicate, Nat.zero_add] at e9
    have h9 : val l1 + (BB ^ k * val l7 + (BB ^ (2 * k) * val l2 + 0)) = val l * val l' := HVL
    rw [h9] at e9
    exact e9
end Go.Proofs.Wd
