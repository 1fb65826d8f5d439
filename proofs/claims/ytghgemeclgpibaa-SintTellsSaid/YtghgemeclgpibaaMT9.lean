/- Cases of Karatsuba's step; Walks of straitref05: Add, Mul; Walks of straitref05: Neg, Sub, Cmp, Same; The walk of straitref05's Small; The walk of sint.Div; The walk of straitlaw05.wakes; Plain facts of the order of integers; The walk of straitlaw05.SintOrder. -/
import Derived.Test.YtghgemeclgpibaaMT8
import Derived.Test.YtghgemeclgpibaaMT7
import Derived.Test.YtghgemeclgpibaaMT1
import Derived.Test.YtghgemeclgpibaaMT3
namespace Go.Proofs.Wd
open Go.RowKit Lb
attribute [local go_sem] Oper.semAt_some wide_fn wide_depth

set_option maxRecDepth 100000 in
set_option maxHeartbeats 2000000 in
theorem kmul_p5 (mb : Nat) (b o n c : Nat) (l : List Nat) (b' o' c' : Nat) (l' : List Nat) (w : World) (h : Rd w (some ⟨b, o, none⟩) n c l) (h' : Rd w (some ⟨b', o', none⟩) n c' l') (ht : Lt l) (ht' : Lt l') (hn : n ≤ 40000) (k : Nat) (hk12 : 12 ≤ k)
    (hdiv : n / 2 = k) (h1 : k < n) (_h2 : k < n) (h3 : 12 < n) (_h4 : 12 < n) (ih : KMul (n - 1)) (hmb : w.cell? ⟨mb, 0, none⟩ = some (mulFn mb)) :
    Calls Try.prog 80 #[.slice (some ⟨b, o, none⟩) n c, .slice (some ⟨b', o', none⟩) n c', .pointer (some ⟨mb, 0, none⟩)] w (RetNat w (val l * val l')) := by
  have hmix : Try.prog.follows .mixedOrders = true := by kernel_rfl
  have hle := h.le; have hcap := h.cap; have hle' := h'.le; have hcap' := h'.cap
  have ra := h.take (k := k) (m := c) (by omega) (by omega) (Nat.le_refl _)
  have rb := h'.take (k := k) (m := c') (by omega) (by omega) (Nat.le_refl _)
  have ra2 : Rd w (some ⟨b, o + k, none⟩) (n - k) (c - k) (l.drop k) := by
    have := h.drop (k := k) (by omega)
    rw [if_neg (by omega)] at this
    simpa [Addr.add_lit] using this
  have rb2 : Rd w (some ⟨b', o' + k, none⟩) (n - k) (c' - k) (l'.drop k) := by
    have := h'.drop (k := k) (by omega)
    rw [if_neg (by omega)] at this
    simpa [Addr.add_lit] using this
  have hcl : ∀ W, Below w.heap.size w W → W.cell? ⟨mb, 0, none⟩ = some (mulFn mb) := fun W hb => (hb.cell (p := ⟨mb, 0, none⟩) (lt_of_cell hmb)).trans hmb
  have hen : ∀ args w, (callFunc 80 args).run Try.prog w = .ok (.enter 80 args) w := enters_of Try.func80 (by kernel_rfl) rfl
  have g1 : k ≤ c := by omega
  have g2 : k ≤ c' := by omega
  have g3 : k ≤ n := by omega
  have g4 : k ≤ n := by omega
  have g5 : ¬ c = k := by omega
  have g6 : ¬ c' = k := by omega
  have hdi : (n : Int) / 2 = (k : Int) := by omega
  go_enter Try.func80, Try.ntmps80
  go_wp2
  refine (wpIn_wide (n := 0)).1 ?_
  refine wpIn_region_C 100 (fun W => W.cell? ⟨mb, 0, none⟩ = some (.func (.func 80) #[] #[.pointer (some ⟨mb, 0, none⟩)])) hmix ?_
  have b0 : Below w.heap.size w w.drew := (Below.refl _ w).drew
  have c0 := hcl _ b0
  unfold mulFn at c0
  refine takeC (i := 0) (v := ?vv1) (by kernel_rfl) (by kernel_rfl) rfl (by kernel_rfl) (by kernel_rfl) (by kernel_rfl) (fun _ _ _ h => h) c0 ⟨.inl ⟨rfl, ?yy1⟩, fun _ => rfl⟩ ?_
  case yy1 =>
    rintro wx q1
    go_simp
    first | done | rfl
  refine takeC (i := 1) (v := ?vv2) (by kernel_rfl) (by kernel_rfl) rfl (by kernel_rfl) (by kernel_rfl) (by kernel_rfl) (fun _ _ _ h => h) c0 ⟨.inl ⟨rfl, ?yy2⟩, fun _ => rfl⟩ ?_
  case yy2 =>
    rintro wx q1
    go_simp
    first | done | rfl
  refine takeC (i := 2) (v := ?vv3) (by kernel_rfl) (by kernel_rfl) rfl (by kernel_rfl) (by kernel_rfl) (by kernel_rfl) (fun _ _ _ h => h) c0 ⟨.inl ⟨rfl, ?yy3⟩, fun _ => rfl⟩ ?_
  case yy3 =>
    rintro wx q1
    go_simp
    first | done | rfl
  refine takeC (i := 3) (v := ?vv4) (by kernel_rfl) (by kernel_rfl) rfl (by kernel_rfl) (by kernel_rfl) (by kernel_rfl) (fun _ _ _ h => h) c0 ⟨.inl ⟨rfl, ?yy4⟩, fun _ => rfl⟩ ?_
  case yy4 =>
    rintro wx q1
    go_simp
    first | done | rfl
  refine takeC (i := 4) (v := ?vv5) (by kernel_rfl) (by kernel_rfl) rfl (by kernel_rfl) (by kernel_rfl) (by kernel_rfl) (fun _ _ _ h => h) c0 ⟨.inl ⟨rfl, ?yy5⟩, fun _ => rfl⟩ ?_
  case yy5 =>
    rintro wx q1
    go_simp
    first | done | rfl
  refine takeC (i := 5) (v := ?vv6) (by kernel_rfl) (by kernel_rfl) rfl (by kernel_rfl) (by kernel_rfl) (by kernel_rfl) (fun _ _ _ h => h) c0 ⟨.inl ⟨rfl, ?yy6⟩, fun _ => rfl⟩ ?_
  case yy6 =>
    rintro wx q1
    go_simp
    first | done | rfl
  refine takeC (i := 6) (v := ?vv7) (by kernel_rfl) (by kernel_rfl) rfl (by kernel_rfl) (by kernel_rfl) (by kernel_rfl) (fun _ _ _ h => h) c0 ⟨.inl ⟨rfl, ?yy7⟩, fun _ => rfl⟩ ?_
  case yy7 =>
    rintro wx q1
    go_simp
    first | done | rfl
  refine takeC (i := 8) (v := ?vv8) (by kernel_rfl) (by kernel_rfl) rfl (by kernel_rfl) (by kernel_rfl) (by kernel_rfl) (fun _ _ _ h => h) c0 ⟨.inl ⟨rfl, ?yy8⟩, fun _ => rfl⟩ ?_
  case yy8 =>
    rintro wx q1
    go_simp
    first | done | rfl
  refine takeC (i := 9) (v := ?vv9) (by kernel_rfl) (by kernel_rfl) rfl (by kernel_rfl) (by kernel_rfl) (by kernel_rfl) (fun _ _ _ h => h) c0 ⟨.inl ⟨rfl, ?yy9⟩, fun _ => rfl⟩ ?_
  case yy9 =>
    rintro wx q1
    go_simp
    first | done | rfl
  refine takeC (i := 10) (v := ?vv10) (by kernel_rfl) (by kernel_rfl) rfl (by kernel_rfl) (by kernel_rfl) (by kernel_rfl) (fun _ _ _ h => h) c0 ⟨.inl ⟨rfl, ?yy10⟩, fun _ => rfl⟩ ?_
  case yy10 =>
    rintro wx q1
    go_simp
    first | done | rfl
  refine takeC (i := 11) (v := ?vv11) (by kernel_rfl) (by kernel_rfl) rfl (by kernel_rfl) (by kernel_rfl) (by kernel_rfl) (fun _ _ _ h => h) c0 ⟨.inl ⟨rfl, ?yy11⟩, fun _ => rfl⟩ ?_
  case yy11 =>
    rintro wx q1
    go_simp
    first | done | rfl
  refine takeC (i := 12) (v := ?vv12) (by kernel_rfl) (by kernel_rfl) rfl (by kernel_rfl) (by kernel_rfl) (by kernel_rfl) (fun _ _ _ h => h) c0 ⟨.inl ⟨rfl, ?yy12⟩, fun _ => rfl⟩ ?_
  case yy12 =>
    rintro wx q1
    go_simp
    first | done | rfl
  refine takeC (i := 13) (v := ?vv13) (by kernel_rfl) (by kernel_rfl) rfl (by kernel_rfl) (by kernel_rfl) (by kernel_rfl) (fun _ _ _ h => h) c0 ⟨.inl ⟨rfl, ?yy13⟩, fun _ => rfl⟩ ?_
  case yy13 =>
    rintro wx q1
    go_simp
    first | done | rfl
  refine takeC (i := 14) (v := ?vv14) (by kernel_rfl) (by kernel_rfl) rfl (by kernel_rfl) (by kernel_rfl) (by kernel_rfl) (fun _ _ _ h => h) c0 ⟨.inl ⟨rfl, ?yy14⟩, fun _ => rfl⟩ ?_
  case yy14 =>
    rintro wx q1
    go_simp
    first | done | rfl
  have i1 := ih mb _ _ _ _ _ _ _ _ w.drew (ra.below b0) (rb.below b0) (Lt_take ht k) (Lt_take ht' k) (by omega) (by omega) (hcl _ b0)
  refine oneC (i := 7) (by kernel_rfl) rfl (fun K hK => ?_)
  go_simp
  refine CallsIn.mono (callsIn_wide.2 i1) ?_
  rintro e W1 ⟨A1, n1, c1, l1, rfl, hi1, hr1, hb1⟩
  have b1 := b0.trans (hb1.mono b0.size)
  have c1' := hcl _ b1
  unfold mulFn at c1'
  refine hK _ _ (.inr c1') ?_
  clear hK K i1
  have i2 := ih mb _ _ _ _ _ _ _ _ W1 (ra2.below b1) (rb2.below b1) (Lt_drop ht k) (Lt_drop ht' k) (by omega) (by omega) (hcl _ b1)
  refine oneC (i := 15) (by kernel_rfl) rfl (fun K hK => ?_)
  go_simp
  refine CallsIn.mono (callsIn_wide.2 i2) ?_
  rintro e W2 ⟨A2, n2, c2, l2, rfl, hi2, hr2, hb2⟩
  have b2 := b1.trans (hb2.mono b1.size)
  have c2' := hcl _ b2
  unfold mulFn at c2'
  refine hK _ _ (.inr c2') ?_
  clear hK K i2
  refine oneC (i := 16) (by kernel_rfl) rfl (fun K hK => ?_)
  go_simp
  refine hK _ _ (.inr c2') ?_
  clear hK K
  refine oneC (i := 17) (by kernel_rfl) rfl (fun K hK => ?_)
  go_simp
  refine hK _ _ (.inr c2') ?_
  clear hK K
  refine doneP (by kernel_rfl) ?_
  have hr1' := hr1.below hb2
  go_wp2
  refine (wpIn_wide (n := 0)).1 ?_
  refine wpIn_region_C 100 (fun W => W.cell? ⟨mb, 0, none⟩ = some (.func (.func 80) #[] #[.pointer (some ⟨mb, 0, none⟩)]) ∧ Below W2.heap.size W2 W) hmix ?_
  have b3 : Below W2.heap.size W2 W2.drew := (Below.refl _ W2).drew
  have c3 := And.intro c2' b3
  refine takeC (i := 0) (v := ?vv15) (by kernel_rfl) (by kernel_rfl) rfl (by kernel_rfl) (by kernel_rfl) (by kernel_rfl) (fun _ _ _ h => h) c3 ⟨.inl ⟨rfl, ?yy15⟩, fun _ => rfl⟩ ?_
  case yy15 =>
    rintro wx ⟨q1, q2⟩
    go_simp
    first | done | rfl
  refine takeC (i := 1) (v := ?vv16) (by kernel_rfl) (by kernel_rfl) rfl (by kernel_rfl) (by kernel_rfl) (by kernel_rfl) (fun _ _ _ h => h) c3 ⟨.inl ⟨rfl, ?yy16⟩, fun _ => rfl⟩ ?_
  case yy16 =>
    rintro wx ⟨q1, q2⟩
    go_simp
    first | done | rfl
  refine takeC (i := 2) (v := ?vv17) (by kernel_rfl) (by kernel_rfl) rfl (by kernel_rfl) (by kernel_rfl) (by kernel_rfl) (fun _ _ _ h => h) c3 ⟨.inl ⟨rfl, ?yy17⟩, fun _ => rfl⟩ ?_
  case yy17 =>
    rintro wx ⟨q1, q2⟩
    go_simp
    first | done | rfl
  refine takeC (i := 3) (v := ?vv18) (by kernel_rfl) (by kernel_rfl) rfl (by kernel_rfl) (by kernel_rfl) (by kernel_rfl) (fun _ _ _ h => h) c3 ⟨.inl ⟨rfl, ?yy18⟩, fun _ => rfl⟩ ?_
  case yy18 =>
    rintro wx ⟨q1, q2⟩
    go_simp
    first | done | rfl
  refine takeC (i := 4) (v := ?vv19) (by kernel_rfl) (by kernel_rfl) rfl (by kernel_rfl) (by kernel_rfl) (by kernel_rfl) (fun _ _ _ h => h) c3 ⟨.inl ⟨rfl, ?yy19⟩, fun _ => rfl⟩ ?_
  case yy19 =>
    rintro wx ⟨q1, q2⟩
    go_simp
    first | done | rfl
  refine takeC (i := 5) (v := ?vv20) (by kernel_rfl) (by kernel_rfl) rfl (by kernel_rfl) (by kernel_rfl) (by kernel_rfl) (fun _ _ _ h => h) c3 ⟨.inl ⟨rfl, ?yy20⟩, fun _ => rfl⟩ ?_
  case yy20 =>
    rintro wx ⟨q1, q2⟩
    go_simp
    first | done | rfl
  refine takeC (i := 6) (v := ?vv21) (by kernel_rfl) (by kernel_rfl) rfl (by kernel_rfl) (by kernel_rfl) (by kernel_rfl) (fun _ _ _ h => h) c3 ⟨.inl ⟨rfl, ?yy21⟩, fun _ => rfl⟩ ?_
  case yy21 =>
    rintro wx ⟨q1, q2⟩
    go_simp
    first | done | rfl
  refine takeC (i := 9) (v := ?vv22) (by kernel_rfl) (by kernel_rfl) rfl (by kernel_rfl) (by kernel_rfl) (by kernel_rfl) (fun _ _ _ h => h) c3 ⟨.inl ⟨rfl, ?yy22⟩, fun _ => rfl⟩ ?_
  case yy22 =>
    rintro wx ⟨q1, q2⟩
    go_simp
    first | done | rfl
  refine takeC (i := 10) (v := ?vv23) (by kernel_rfl) (by kernel_rfl) rfl (by kernel_rfl) (by kernel_rfl) (by kernel_rfl) (fun _ _ _ h => h) c3 ⟨.inl ⟨rfl, ?yy23⟩, fun _ => rfl⟩ ?_
  case yy23 =>
    rintro wx ⟨q1, q2⟩
    go_simp
    first | done | rfl
  refine takeC (i := 11) (v := ?vv24) (by kernel_rfl) (by kernel_rfl) rfl (by kernel_rfl) (by kernel_rfl) (by kernel_rfl) (fun _ _ _ h => h) c3 ⟨.inl ⟨rfl, ?yy24⟩, fun _ => rfl⟩ ?_
  case yy24 =>
    rintro wx ⟨q1, q2⟩
    go_simp
    first | done | rfl
  refine takeC (i := 12) (v := ?vv25) (by kernel_rfl) (by kernel_rfl) rfl (by kernel_rfl) (by kernel_rfl) (by kernel_rfl) (fun _ _ _ h => h) c3 ⟨.inl ⟨rfl, ?yy25⟩, fun _ => rfl⟩ ?_
  case yy25 =>
    rintro wx ⟨q1, q2⟩
    go_simp
    first | done | rfl
  refine takeC (i := 13) (v := ?vv26) (by kernel_rfl) (by kernel_rfl) rfl (by kernel_rfl) (by kernel_rfl) (by kernel_rfl) (fun _ _ _ h => h) c3 ⟨.inl ⟨rfl, ?yy26⟩, fun _ => rfl⟩ ?_
  case yy26 =>
    rintro wx ⟨q1, q2⟩
    go_simp
    first | done | rfl
  refine takeC (i := 14) (v := ?vv27) (by kernel_rfl) (by kernel_rfl) rfl (by kernel_rfl) (by kernel_rfl) (by kernel_rfl) (fun _ _ _ h => h) c3 ⟨.inl ⟨rfl, ?yy27⟩, fun _ => rfl⟩ ?_
  case yy27 =>
    rintro wx ⟨q1, q2⟩
    go_simp
    first | done | rfl
  refine takeC (i := 18) (v := ?vv28) (by kernel_rfl) (by kernel_rfl) rfl (by kernel_rfl) (by kernel_rfl) (by kernel_rfl) (fun _ _ _ h => h) c3 ⟨.inl ⟨rfl, ?yy28⟩, fun _ => rfl⟩ ?_
  case yy28 =>
    rintro wx ⟨q1, q2⟩
    go_simp
    first | done | rfl
  refine takeC (i := 19) (v := ?vv29) (by kernel_rfl) (by kernel_rfl) rfl (by kernel_rfl) (by kernel_rfl) (by kernel_rfl) (fun _ _ _ h => h) c3 ⟨.inl ⟨rfl, ?yy29⟩, fun _ => rfl⟩ ?_
  case yy29 =>
    rintro wx ⟨q1, q2⟩
    go_simp
    first | done | rfl
  have hC3 : ∀ W W', (W.cell? ⟨mb, 0, none⟩ = some (.func (.func 80) #[] #[.pointer (some ⟨mb, 0, none⟩)]) ∧ Below W2.heap.size W2 W) → Below W.heap.size W W' → (W'.cell? ⟨mb, 0, none⟩ = some (.func (.func 80) #[] #[.pointer (some ⟨mb, 0, none⟩)]) ∧ Below W2.heap.size W2 W') := fun W W' hc hb =>
    ⟨(hb.cell (p := ⟨mb, 0, none⟩) (lt_of_cell hc.1)).trans hc.1, hc.2.trans (hb.mono hc.2.size)⟩
  have hta := val_lt (Lt_take ht k); have hda := val_lt (Lt_drop ht k); have htb := val_lt (Lt_take ht' k); have hdb := val_lt (Lt_drop ht' k)
  rw [ra.len] at hta; rw [ra2.len] at hda; rw [rb.len] at htb; rw [rb2.len] at hdb
  have hn1 : n1 ≤ 80000 := by
    rw [← hr1.len]
    refine Nat.le_trans (hi1.len (k := k + k) ?_) (by omega)
    rw [Nat.pow_add]
    exact Nat.mul_lt_mul_of_lt_of_le hta (Nat.le_of_lt htb) (Nat.pow_pos BB_pos)
  have hn2 : n2 ≤ 80000 := by
    rw [← hr2.len]
    refine Nat.le_trans (hi2.len (k := (n - k) + (n - k)) ?_) (by omega)
    rw [Nat.pow_add]
    exact Nat.mul_lt_mul_of_lt_of_le hda (Nat.le_of_lt hdb) (Nat.pow_pos BB_pos)
  have hsum : ∀ x y e f : Nat, x < BB ^ e → y < BB ^ f → e ≤ n - 2 → f ≤ n - 2 → x + y < BB ^ (n - 1) := by
    intro x y e f hx hy he hf
    have u1 : BB ^ e ≤ BB ^ (n - 2) := Nat.pow_le_pow_right BB_pos he
    have u2 : BB ^ f ≤ BB ^ (n - 2) := Nat.pow_le_pow_right BB_pos hf
    have u3 : BB ^ (n - 2) * 2 ≤ BB ^ (n - 2) * BB := Nat.mul_le_mul_left _ (by unfold BB; omega)
    have u4 : BB ^ (n - 1) = BB ^ (n - 2) * BB := by rw [← Nat.pow_succ]; congr 1; omega
    omega
  refine flowC (E := KE l l' l1 l2 k (val (l.take k) * val (l'.take k)) (val (l.drop k) * val (l'.drop k))) (by kernel_rfl) (by kernel_rfl) (by kernel_rfl) hC3 (KE_below _ _ _ _ _ _ _) ?hspec ?hfin _ _ _ _ (by kernel_rfl) (by kernel_rfl) (fun _ hh => hh) ⟨c3, rfl, rfl, fun _ _ => rfl, fun i o t hS => absurd hS (by intro hS; rw [hS.1] at hS; cases hS.2)⟩
  case hspec =>
    intro i oo hi hl b5 W5 hf K hK
    have hm := unlisted_mem [7, 8, 15, 16, 17, 20, 21, 22, 23] (by kernel_rfl) hl
    simp only [List.mem_cons, List.not_mem_nil, or_false] at hm
    have bW := b2.trans (hf.cls.2.mono b2.size)
    rcases hm with rfl | rfl | rfl | rfl | rfl | rfl | rfl | rfl | rfl
    · cases hi
      have k46 : b5.tmps[46]?.getD undef = .slice (some ⟨b, o, none⟩) k c := (Array.getD_eq_getD_getElem? ..).symm.trans ((hf.keep 46 (by kernel_rfl)).trans (by kernel_rfl))
      have k49 : b5.tmps[49]?.getD undef = .slice (some ⟨b, o + k, none⟩) (n - k) (c - k) := (Array.getD_eq_getD_getElem? ..).symm.trans ((hf.keep 49 (by kernel_rfl)).trans (by kernel_rfl))
      refine wpOpIn_step rfl (fun K' hK' => ?_)
      go_simp
      exact hK' _ _ (hK _ _ ⟨_, rfl, Rds.two (ra.below bW) (Lt_take ht k) (by omega) (ra2.below bW) (Lt_drop ht k) (by omega) _⟩ ((Below.refl _ W5).alloc (Nat.le_refl _) _))
    · cases hi
      have v7 := hf.vals 7 _ 50 ⟨by kernel_rfl, ⟨7, .data⟩, by simp, by kernel_rfl, rfl⟩ rfl rfl
      rw [Array.getD_eq_getD_getElem?] at v7
      obtain ⟨B, kB, hR⟩ := v7
      refine wpOpIn_step rfl (fun K' hK' => ?_)
      go_simp
      refine CallsIn.mono (callsIn_wide.2 (add_any B 2 2 _ W5 hR (by simp))) ?_
      rintro e W' ⟨A3, n3, c3, l3, rfl, hi3, hr3, hb3⟩
      exact hK' _ _ (hK _ _ ⟨A3, n3, c3, l3, rfl, by simpa using hi3, hr3⟩ hb3)
    · cases hi
      have k54 : b5.tmps[54]?.getD undef = .slice (some ⟨b', o', none⟩) k c' := (Array.getD_eq_getD_getElem? ..).symm.trans ((hf.keep 54 (by kernel_rfl)).trans (by kernel_rfl))
      have k57 : b5.tmps[57]?.getD undef = .slice (some ⟨b', o' + k, none⟩) (n - k) (c' - k) := (Array.getD_eq_getD_getElem? ..).symm.trans ((hf.keep 57 (by kernel_rfl)).trans (by kernel_rfl))
      refine wpOpIn_step rfl (fun K' hK' => ?_)
      go_simp
      exact hK' _ _ (hK _ _ ⟨_, rfl, Rds.two (rb.below bW) (Lt_take ht' k) (by omega) (rb2.below bW) (Lt_drop ht' k) (by omega) _⟩ ((Below.refl _ W5).alloc (Nat.le_refl _) _))
    · cases hi
      have v15 := hf.vals 15 _ 58 ⟨by kernel_rfl, ⟨15, .data⟩, by simp, by kernel_rfl, rfl⟩ rfl rfl
      rw [Array.getD_eq_getD_getElem?] at v15
      obtain ⟨B, kB, hR⟩ := v15
      refine wpOpIn_step rfl (fun K' hK' => ?_)
      go_simp
      refine CallsIn.mono (callsIn_wide.2 (add_any B 2 2 _ W5 hR (by simp))) ?_
      rintro e W' ⟨A3, n3, c3, l3, rfl, hi3, hr3, hb3⟩
      exact hK' _ _ (hK _ _ ⟨A3, n3, c3, l3, rfl, by simpa using hi3, hr3⟩ hb3)
    · cases hi
      have v8 := hf.vals 8 _ 51 ⟨by kernel_rfl, ⟨8, .data⟩, by simp, by kernel_rfl, rfl⟩ rfl rfl
      rw [Array.getD_eq_getD_getElem?] at v8
      obtain ⟨A3, n3, c3, l3, k51, hi3, hr3⟩ := v8
      have v16 := hf.vals 16 _ 59 ⟨by kernel_rfl, ⟨16, .data⟩, by simp, by kernel_rfl, rfl⟩ rfl rfl
      rw [Array.getD_eq_getD_getElem?] at v16
      obtain ⟨A4, n4, c4, l4, k59, hi4, hr4⟩ := v16
      have k43 : b5.tmps[43]?.getD undef = .func (.func 80) #[] #[.pointer (some ⟨mb, 0, none⟩)] := (Array.getD_eq_getD_getElem? ..).symm.trans ((hf.keep 43 (by kernel_rfl)).trans (by kernel_rfl))
      have i3 := ih mb A3 n3 c3 l3 A4 n4 c4 l4 W5 hr3 hr4 hi3.lt hi4.lt (by rw [← hr3.len]; exact hi3.len (hsum _ _ _ _ hta hda (by omega) (by omega))) (by rw [← hr4.len]; exact hi4.len (hsum _ _ _ _ htb hdb (by omega) (by omega))) hf.cls.1
      rw [hi3.val, hi4.val] at i3
      refine wpOpIn_step rfl (fun K' hK' => ?_)
      go_simp
      refine CallsIn.mono (callsIn_wide.2 i3) ?_
      rintro e W' ⟨A7, n7, c7, l7, rfl, hi7, hr7, hb7⟩
      exact hK' _ _ (hK _ _ ⟨A7, n7, c7, l7, rfl, hi7, hr7⟩ hb7)
    · cases hi
      have k61 : b5.tmps[61]?.getD undef = .slice A1 n1 c1 := (Array.getD_eq_getD_getElem? ..).symm.trans ((hf.keep 61 (by kernel_rfl)).trans (by kernel_rfl))
      have k62 : b5.tmps[62]?.getD undef = .slice A2 n2 c2 := (Array.getD_eq_getD_getElem? ..).symm.trans ((hf.keep 62 (by kernel_rfl)).trans (by kernel_rfl))
      refine wpOpIn_step rfl (fun K' hK' => ?_)
      go_simp
      exact hK' _ _ (hK _ _ ⟨_, rfl, Rds.two (hr1'.below hf.cls.2) hi1.lt (by omega) (hr2.below hf.cls.2) hi2.lt (by omega) _⟩ ((Below.refl _ W5).alloc (Nat.le_refl _) _))
    · cases hi
      have v20 := hf.vals 20 _ 63 ⟨by kernel_rfl, ⟨20, .data⟩, by simp, by kernel_rfl, rfl⟩ rfl rfl
      rw [Array.getD_eq_getD_getElem?] at v20
      obtain ⟨B, kB, hR⟩ := v20
      refine wpOpIn_step rfl (fun K' hK' => ?_)
      go_simp
      refine CallsIn.mono (callsIn_wide.2 (add_any B 2 2 _ W5 hR (by simp))) ?_
      rintro e W' ⟨A3, n3, c3, l3, rfl, hi3, hr3, hb3⟩
      exact hK' _ _ (hK _ _ ⟨A3, n3, c3, l3, rfl, by have e9 := hi3; simp only [List.map_cons, List.map_nil, List.sum_cons, List.sum_nil, Nat.add_zero, hi1.val, hi2.val] at e9; exact e9, hr3⟩ hb3)
    · cases hi
      have v17 := hf.vals 17 _ 60 ⟨by kernel_rfl, ⟨17, .data⟩, by simp, by kernel_rfl, rfl⟩ rfl rfl
      rw [Array.getD_eq_getD_getElem?] at v17
      obtain ⟨A3, n3, c3, l3, k60, hi3, hr3⟩ := v17
      have v21 := hf.vals 21 _ 64 ⟨by kernel_rfl, ⟨21, .data⟩, by simp, by kernel_rfl, rfl⟩ rfl rfl
      rw [Array.getD_eq_getD_getElem?] at v21
      obtain ⟨A4, n4, c4, l4, k64, hi4, hr4⟩ := v21
      have hsb := sub_any A3 n3 c3 l3 A4 n4 c4 l4 W5 hr3 hr4 hi3.lt hi4.lt (by rw [hi3.val, hi4.val]; exact kara_le _ _ _ _) (by rw [← hr3.len]; exact Nat.le_trans (hi3.len (k := (n - 1) + (n - 1)) (by rw [Nat.pow_add]; exact Nat.mul_lt_mul_of_lt_of_le (hsum _ _ _ _ hta hda (by omega) (by omega)) (Nat.le_of_lt (hsum _ _ _ _ htb hdb (by omega) (by omega))) (Nat.pow_pos BB_pos))) (by omega)) (by rw [← hr4.len]; exact Nat.le_trans (hi4.len (k := (n - 1) + (n - 1)) (Nat.lt_of_le_of_lt (kara_le _ _ _ _) (by rw [Nat.pow_add]; exact Nat.mul_lt_mul_of_lt_of_le (hsum _ _ _ _ hta hda (by omega) (by omega)) (Nat.le_of_lt (hsum _ _ _ _ htb hdb (by omega) (by omega))) (Nat.pow_pos BB_pos)))) (by omega))
      rw [hi3.val, hi4.val] at hsb
      have hls := pless_any A3 n3 c3 A4 n4 c4 W5 _ hsb
      refine wpOpIn_step rfl (fun K' hK' => ?_)
      go_simp
      refine CallsIn.mono (callsIn_wide.2 hls) ?_
      rintro e W' ⟨A7, n7, c7, l7, rfl, hi7, hr7, hb7⟩
      exact hK' _ _ (hK _ _ ⟨A7, n7, c7, l7, rfl, hi7, hr7⟩ hb7)
    · cases hi
      have v22 := hf.vals 22 _ 65 ⟨by kernel_rfl, ⟨22, .data⟩, by simp, by kernel_rfl, rfl⟩ rfl rfl
      rw [Array.getD_eq_getD_getElem?] at v22
      obtain ⟨A7, n7, c7, l7, k65, hi7, hr7⟩ := v22
      refine wpOpIn_step rfl (fun K' hK' => ?_)
      go_simp
      exact hK' _ _ (hK _ _ ⟨A7, n7, c7, l7, rfl, hi7, hr7⟩ (Below.refl _ W5))
  case hfin =>
    intro b5 W5 hf
    have v23 := hf.vals 23 _ 9 (by kernel_rfl) rfl rfl
    have hE := frame_eq [50, 51, 58, 59, 60, 63, 64, 65, 9] hf.size (fun t ht5 => hf.keep t (not_dst (by rw [show dstList _ _ = [50, 51, 58, 59, 60, 63, 64, 65, 9] from by kernel_rfl]; exact ht5)))
    have hcl5 := hf.cls.2
    obtain ⟨tm, df⟩ := b5
    obtain rfl : df = _ := hf.defers
    clear hf
    obtain ⟨A7, n7, c7, l7, hv9, hi7, hr7⟩ := v23
    simp only [List.foldl_cons, List.foldl_nil, hv9] at hE
    obtain ⟨u1, hu1⟩ : ∃ u, tm.getD 50 undef = u := ⟨_, rfl⟩
    obtain ⟨u2, hu2⟩ : ∃ u, tm.getD 51 undef = u := ⟨_, rfl⟩
    obtain ⟨u3, hu3⟩ : ∃ u, tm.getD 58 undef = u := ⟨_, rfl⟩
    obtain ⟨u4, hu4⟩ : ∃ u, tm.getD 59 undef = u := ⟨_, rfl⟩
    obtain ⟨u5, hu5⟩ : ∃ u, tm.getD 60 undef = u := ⟨_, rfl⟩
    obtain ⟨u6, hu6⟩ : ∃ u, tm.getD 63 undef = u := ⟨_, rfl⟩
    obtain ⟨u7, hu7⟩ : ∃ u, tm.getD 64 undef = u := ⟨_, rfl⟩
    obtain ⟨u8, hu8⟩ : ∃ u, tm.getD 65 undef = u := ⟨_, rfl⟩
    rw [hu1, hu2, hu3, hu4, hu5, hu6, hu7, hu8] at hE
    clear hu1 hu2 hu3 hu4 hu5 hu6 hu7 hu8 hv9
    rewrite [hE]
    clear hE
    rw [noPanic_normal]
    have bW := b2.trans (hcl5.mono b2.size)
    have hn7 : n7 ≤ 100000 := by
      rw [← hr7.len]
      exact Nat.le_trans (hi7.len (k := (n - 1) + (n - 1)) (Nat.lt_of_le_of_lt (Nat.sub_le _ _) (by rw [Nat.pow_add]; exact Nat.mul_lt_mul_of_lt_of_le (hsum _ _ _ _ hta hda (by omega) (by omega)) (Nat.le_of_lt (hsum _ _ _ _ htb hdb (by omega) (by omega))) (Nat.pow_pos BB_pos)))) (by omega)
    have e2k : ((2 * k : Nat) : Int) = 2 * (k : Int) := by omega
    have ab1 := above_any A7 n7 c7 l7 k W5 hr7 hn7 (by omega)
    have ab2 := fun (W : World) (hb : Below W5.heap.size W5 W) => above_any A2 n2 c2 l2 (2 * k) W ((hr2.below hcl5).below hb) (by omega) (by omega)
    rw [e2k] at ab2
    have hr1'' := hr1'.below hcl5
    have hval : val l1 + (BB ^ k * val l7 + (BB ^ (2 * k) * val l2 + 0)) = val l * val l' := by
      rw [val_take_drop l k (by rw [h.len]; omega), val_take_drop l' k (by rw [h'.len]; omega), kara, hi1.val, hi7.val, hi2.val, show BB ^ (2 * k) = BB ^ k * BB ^ k from by rw [← Nat.pow_add, Nat.two_mul]]
      omega
    have HVL := hid hval
    clear hval hta hda htb hdb
    have ML8 : ∀ {W : World} {A : Option Addr} {n8 c8 : Nat}, Rd W A n8 c8 (List.replicate k 0 ++ l7) → n8 ≤ 68719476736 := fun hr => by
      rw [← hr.len, List.length_append, List.length_replicate, hr7.len]
      omega
    have ML9 : ∀ {W : World} {A : Option Addr} {n9 c9 : Nat}, Rd W A n9 c9 (List.replicate (2 * k) 0 ++ l2) → n9 ≤ 68719476736 := fun hr => by
      rw [← hr.len, List.length_append, List.length_replicate, hr2.len]
      omega
    go_simp
    go_wp2_with (first | (go_at_call 83; first | ((with_reducible refine ab1.mono ?_); rintro e w8 ⟨A8, n8, c8, rfl, hr8, hb8⟩; have ab3 := ab2 w8 hb8) | ((with_reducible refine ab3.mono ?_); rintro e w9 ⟨A9, n9, c9, rfl, hr9, hb9⟩; have hr8' := hr8.below hb9; have hr19 := (hr1''.below hb8).below hb9; have hds := Rds.three hr19 hi1.lt (Nat.le_trans hn1 (by decide)) hr8' (Lt_append (Lt_replicate k) hi7.lt) (ML8 hr8) hr9 (Lt_append (Lt_replicate (2 * k)) hi2.lt) (ML9 hr9) 23; have hadd := add_any _ 3 3 _ _ hds (by decide))) | (go_at_call 37; refine hadd.mono ?_; rintro e wa ⟨Aa, na, ca, la, rfl, hia, hra, hba⟩))
    go_ret
    have b8 := bW.trans (hb8.mono bW.size)
    have b9 := b8.trans (hb9.mono b8.size)
    have ba := b9.alloc b9.size (Obj.cells #[Value.slice A1 n1 c1, Value.slice A8 n8 c8, Value.slice A9 n9 c9] 23)
    refine ⟨Aa, na, ca, la, rfl, ?_, hra, ba.trans (hba.mono ba.size)⟩
    have e9 := hia
    simp only [List.map_cons, List.map_nil, List.sum_cons, List.sum_nil, val_append, val_replicate, List.length_replicate, Nat.zero_add] at e9
    have h9 : val l1 + (BB ^ k * val l7 + (BB ^ (2 * k) * val l2 + 0)) = val l * val l' := HVL
    rw [h9] at e9
    exact e9

set_option maxRecDepth 100000 in
set_option maxHeartbeats 2000000 in
theorem kmul_p6 (mb : Nat) (b o n c : Nat) (l : List Nat) (b' o' c' : Nat) (l' : List Nat) (w : World) (h : Rd w (some ⟨b, o, none⟩) n c l) (h' : Rd w (some ⟨b', o', none⟩) n c' l') (ht : Lt l) (ht' : Lt l') (hn : n ≤ 40000) (k : Nat) (hk12 : k < 12)
    (hdiv : n / 2 = k) (h1 : k < n) (_h2 : k < n) (h3 : 12 < n) (_h4 : 12 < n) (ih : KMul (n - 1)) (hmb : w.cell? ⟨mb, 0, none⟩ = some (mulFn mb)) :
    Calls Try.prog 80 #[.slice (some ⟨b, o, none⟩) n c, .slice (some ⟨b', o', none⟩) n c', .pointer (some ⟨mb, 0, none⟩)] w (RetNat w (val l * val l')) := by
  have hmix : Try.prog.follows .mixedOrders = true := by kernel_rfl
  have hle := h.le; have hcap := h.cap; have hle' := h'.le; have hcap' := h'.cap
  have ra := h.take (k := k) (m := c) (by omega) (by omega) (Nat.le_refl _)
  have rb := h'.take (k := k) (m := c') (by omega) (by omega) (Nat.le_refl _)
  have ra2 : Rd w (some ⟨b, o + k, none⟩) (n - k) (c - k) (l.drop k) := by
    have := h.drop (k := k) (by omega)
    rw [if_neg (by omega)] at this
    simpa [Addr.add_lit] using this
  have rb2 : Rd w (some ⟨b', o' + k, none⟩) (n - k) (c' - k) (l'.drop k) := by
    have := h'.drop (k := k) (by omega)
    rw [if_neg (by omega)] at this
    simpa [Addr.add_lit] using this
  have hcl : ∀ W, Below w.heap.size w W → W.cell? ⟨mb, 0, none⟩ = some (mulFn mb) := fun W hb => (hb.cell (p := ⟨mb, 0, none⟩) (lt_of_cell hmb)).trans hmb
  have hen : ∀ args w, (callFunc 80 args).run Try.prog w = .ok (.enter 80 args) w := enters_of Try.func80 (by kernel_rfl) rfl
  have g1 : k ≤ c := by omega
  have g2 : k ≤ c' := by omega
  have g3 : k ≤ n := by omega
  have g4 : k ≤ n := by omega
  have g5 : ¬ c = k := by omega
  have g6 : ¬ c' = k := by omega
  have hdi : (n : Int) / 2 = (k : Int) := by omega
  go_enter Try.func80, Try.ntmps80
  go_wp2
  refine (wpIn_wide (n := 0)).1 ?_
  refine wpIn_region_C 100 (fun W => W.cell? ⟨mb, 0, none⟩ = some (.func (.func 80) #[] #[.pointer (some ⟨mb, 0, none⟩)])) hmix ?_
  have b0 : Below w.heap.size w w.drew := (Below.refl _ w).drew
  have c0 := hcl _ b0
  unfold mulFn at c0
  refine takeC (i := 0) (v := ?vv30) (by kernel_rfl) (by kernel_rfl) rfl (by kernel_rfl) (by kernel_rfl) (by kernel_rfl) (fun _ _ _ h => h) c0 ⟨.inl ⟨rfl, ?yy30⟩, fun _ => rfl⟩ ?_
  case yy30 =>
    rintro wx q1
    go_simp
    first | done | rfl
  refine takeC (i := 1) (v := ?vv31) (by kernel_rfl) (by kernel_rfl) rfl (by kernel_rfl) (by kernel_rfl) (by kernel_rfl) (fun _ _ _ h => h) c0 ⟨.inl ⟨rfl, ?yy31⟩, fun _ => rfl⟩ ?_
  case yy31 =>
    rintro wx q1
    go_simp
    first | done | rfl
  refine takeC (i := 2) (v := ?vv32) (by kernel_rfl) (by kernel_rfl) rfl (by kernel_rfl) (by kernel_rfl) (by kernel_rfl) (fun _ _ _ h => h) c0 ⟨.inl ⟨rfl, ?yy32⟩, fun _ => rfl⟩ ?_
  case yy32 =>
    rintro wx q1
    go_simp
    first | done | rfl
  refine takeC (i := 3) (v := ?vv33) (by kernel_rfl) (by kernel_rfl) rfl (by kernel_rfl) (by kernel_rfl) (by kernel_rfl) (fun _ _ _ h => h) c0 ⟨.inl ⟨rfl, ?yy33⟩, fun _ => rfl⟩ ?_
  case yy33 =>
    rintro wx q1
    go_simp
    first | done | rfl
  refine takeC (i := 4) (v := ?vv34) (by kernel_rfl) (by kernel_rfl) rfl (by kernel_rfl) (by kernel_rfl) (by kernel_rfl) (fun _ _ _ h => h) c0 ⟨.inl ⟨rfl, ?yy34⟩, fun _ => rfl⟩ ?_
  case yy34 =>
    rintro wx q1
    go_simp
    first | done | rfl
  refine takeC (i := 5) (v := ?vv35) (by kernel_rfl) (by kernel_rfl) rfl (by kernel_rfl) (by kernel_rfl) (by kernel_rfl) (fun _ _ _ h => h) c0 ⟨.inl ⟨rfl, ?yy35⟩, fun _ => rfl⟩ ?_
  case yy35 =>
    rintro wx q1
    go_simp
    first | done | rfl
  refine takeC (i := 6) (v := ?vv36) (by kernel_rfl) (by kernel_rfl) rfl (by kernel_rfl) (by kernel_rfl) (by kernel_rfl) (fun _ _ _ h => h) c0 ⟨.inl ⟨rfl, ?yy36⟩, fun _ => rfl⟩ ?_
  case yy36 =>
    rintro wx q1
    go_simp
    first | done | rfl
  refine takeC (i := 8) (v := ?vv37) (by kernel_rfl) (by kernel_rfl) rfl (by kernel_rfl) (by kernel_rfl) (by kernel_rfl) (fun _ _ _ h => h) c0 ⟨.inl ⟨rfl, ?yy37⟩, fun _ => rfl⟩ ?_
  case yy37 =>
    rintro wx q1
    go_simp
    first | done | rfl
  refine takeC (i := 9) (v := ?vv38) (by kernel_rfl) (by kernel_rfl) rfl (by kernel_rfl) (by kernel_rfl) (by kernel_rfl) (fun _ _ _ h => h) c0 ⟨.inl ⟨rfl, ?yy38⟩, fun _ => rfl⟩ ?_
  case yy38 =>
    rintro wx q1
    go_simp
    first | done | rfl
  refine takeC (i := 10) (v := ?vv39) (by kernel_rfl) (by kernel_rfl) rfl (by kernel_rfl) (by kernel_rfl) (by kernel_rfl) (fun _ _ _ h => h) c0 ⟨.inl ⟨rfl, ?yy39⟩, fun _ => rfl⟩ ?_
  case yy39 =>
    rintro wx q1
    go_simp
    first | done | rfl
  refine takeC (i := 11) (v := ?vv40) (by kernel_rfl) (by kernel_rfl) rfl (by kernel_rfl) (by kernel_rfl) (by kernel_rfl) (fun _ _ _ h => h) c0 ⟨.inl ⟨rfl, ?yy40⟩, fun _ => rfl⟩ ?_
  case yy40 =>
    rintro wx q1
    go_simp
    first | done | rfl
  refine takeC (i := 12) (v := ?vv41) (by kernel_rfl) (by kernel_rfl) rfl (by kernel_rfl) (by kernel_rfl) (by kernel_rfl) (fun _ _ _ h => h) c0 ⟨.inl ⟨rfl, ?yy41⟩, fun _ => rfl⟩ ?_
  case yy41 =>
    rintro wx q1
    go_simp
    first | done | rfl
  refine takeC (i := 13) (v := ?vv42) (by kernel_rfl) (by kernel_rfl) rfl (by kernel_rfl) (by kernel_rfl) (by kernel_rfl) (fun _ _ _ h => h) c0 ⟨.inl ⟨rfl, ?yy42⟩, fun _ => rfl⟩ ?_
  case yy42 =>
    rintro wx q1
    go_simp
    first | done | rfl
  refine takeC (i := 14) (v := ?vv43) (by kernel_rfl) (by kernel_rfl) rfl (by kernel_rfl) (by kernel_rfl) (by kernel_rfl) (fun _ _ _ h => h) c0 ⟨.inl ⟨rfl, ?yy43⟩, fun _ => rfl⟩ ?_
  case yy43 =>
    rintro wx q1
    go_simp
    first | done | rfl
  have i1 := ih mb _ _ _ _ _ _ _ _ w.drew (ra.below b0) (rb.below b0) (Lt_take ht k) (Lt_take ht' k) (by omega) (by omega) (hcl _ b0)
  refine oneC (i := 7) (by kernel_rfl) rfl (fun K hK => ?_)
  go_simp
  refine CallsIn.mono (callsIn_wide.2 i1) ?_
  rintro e W1 ⟨A1, n1, c1, l1, rfl, hi1, hr1, hb1⟩
  have b1 := b0.trans (hb1.mono b0.size)
  have c1' := hcl _ b1
  unfold mulFn at c1'
  refine hK _ _ (.inr c1') ?_
  clear hK K i1
  have i2 := ih mb _ _ _ _ _ _ _ _ W1 (ra2.below b1) (rb2.below b1) (Lt_drop ht k) (Lt_drop ht' k) (by omega) (by omega) (hcl _ b1)
  refine oneC (i := 15) (by kernel_rfl) rfl (fun K hK => ?_)
  go_simp
  refine CallsIn.mono (callsIn_wide.2 i2) ?_
  rintro e W2 ⟨A2, n2, c2, l2, rfl, hi2, hr2, hb2⟩
  have b2 := b1.trans (hb2.mono b1.size)
  have c2' := hcl _ b2
  unfold mulFn at c2'
  refine hK _ _ (.inr c2') ?_
  clear hK K i2
  refine oneC (i := 16) (by kernel_rfl) rfl (fun K hK => ?_)
  go_simp
  refine hK _ _ (.inr c2') ?_
  clear hK K
  refine oneC (i := 17) (by kernel_rfl) rfl (fun K hK => ?_)
  go_simp
  refine hK _ _ (.inr c2') ?_
  clear hK K
  refine doneP (by kernel_rfl) ?_
  have hr1' := hr1.below hb2
  go_wp2
  refine (wpIn_wide (n := 0)).1 ?_
  refine wpIn_region_C 100 (fun W => W.cell? ⟨mb, 0, none⟩ = some (.func (.func 80) #[] #[.pointer (some ⟨mb, 0, none⟩)]) ∧ Below W2.heap.size W2 W) hmix ?_
  have b3 : Below W2.heap.size W2 W2.drew := (Below.refl _ W2).drew
  have c3 := And.intro c2' b3
  refine takeC (i := 0) (v := ?vv44) (by kernel_rfl) (by kernel_rfl) rfl (by kernel_rfl) (by kernel_rfl) (by kernel_rfl) (fun _ _ _ h => h) c3 ⟨.inl ⟨rfl, ?yy44⟩, fun _ => rfl⟩ ?_
  case yy44 =>
    rintro wx ⟨q1, q2⟩
    go_simp
    first | done | rfl
  refine takeC (i := 1) (v := ?vv45) (by kernel_rfl) (by kernel_rfl) rfl (by kernel_rfl) (by kernel_rfl) (by kernel_rfl) (fun _ _ _ h => h) c3 ⟨.inl ⟨rfl, ?yy45⟩, fun _ => rfl⟩ ?_
  case yy45 =>
    rintro wx ⟨q1, q2⟩
    go_simp
    first | done | rfl
  refine takeC (i := 2) (v := ?vv46) (by kernel_rfl) (by kernel_rfl) rfl (by kernel_rfl) (by kernel_rfl) (by kernel_rfl) (fun _ _ _ h => h) c3 ⟨.inl ⟨rfl, ?yy46⟩, fun _ => rfl⟩ ?_
  case yy46 =>
    rintro wx ⟨q1, q2⟩
    go_simp
    first | done | rfl
  refine takeC (i := 3) (v := ?vv47) (by kernel_rfl) (by kernel_rfl) rfl (by kernel_rfl) (by kernel_rfl) (by kernel_rfl) (fun _ _ _ h => h) c3 ⟨.inl ⟨rfl, ?yy47⟩, fun _ => rfl⟩ ?_
  case yy47 =>
    rintro wx ⟨q1, q2⟩
    go_simp
    first | done | rfl
  refine takeC (i := 4) (v := ?vv48) (by kernel_rfl) (by kernel_rfl) rfl (by kernel_rfl) (by kernel_rfl) (by kernel_rfl) (fun _ _ _ h => h) c3 ⟨.inl ⟨rfl, ?yy48⟩, fun _ => rfl⟩ ?_
  case yy48 =>
    rintro wx ⟨q1, q2⟩
    go_simp
    first | done | rfl
  refine takeC (i := 5) (v := ?vv49) (by kernel_rfl) (by kernel_rfl) rfl (by kernel_rfl) (by kernel_rfl) (by kernel_rfl) (fun _ _ _ h => h) c3 ⟨.inl ⟨rfl, ?yy49⟩, fun _ => rfl⟩ ?_
  case yy49 =>
    rintro wx ⟨q1, q2⟩
    go_simp
    first | done | rfl
  refine takeC (i := 6) (v := ?vv50) (by kernel_rfl) (by kernel_rfl) rfl (by kernel_rfl) (by kernel_rfl) (by kernel_rfl) (fun _ _ _ h => h) c3 ⟨.inl ⟨rfl, ?yy50⟩, fun _ => rfl⟩ ?_
  case yy50 =>
    rintro wx ⟨q1, q2⟩
    go_simp
    first | done | rfl
  refine takeC (i := 9) (v := ?vv51) (by kernel_rfl) (by kernel_rfl) rfl (by kernel_rfl) (by kernel_rfl) (by kernel_rfl) (fun _ _ _ h => h) c3 ⟨.inl ⟨rfl, ?yy51⟩, fun _ => rfl⟩ ?_
  case yy51 =>
    rintro wx ⟨q1, q2⟩
    go_simp
    first | done | rfl
  refine takeC (i := 10) (v := ?vv52) (by kernel_rfl) (by kernel_rfl) rfl (by kernel_rfl) (by kernel_rfl) (by kernel_rfl) (fun _ _ _ h => h) c3 ⟨.inl ⟨rfl, ?yy52⟩, fun _ => rfl⟩ ?_
  case yy52 =>
    rintro wx ⟨q1, q2⟩
    go_simp
    first | done | rfl
  refine takeC (i := 11) (v := ?vv53) (by kernel_rfl) (by kernel_rfl) rfl (by kernel_rfl) (by kernel_rfl) (by kernel_rfl) (fun _ _ _ h => h) c3 ⟨.inl ⟨rfl, ?yy53⟩, fun _ => rfl⟩ ?_
  case yy53 =>
    rintro wx ⟨q1, q2⟩
    go_simp
    first | done | rfl
  refine takeC (i := 12) (v := ?vv54) (by kernel_rfl) (by kernel_rfl) rfl (by kernel_rfl) (by kernel_rfl) (by kernel_rfl) (fun _ _ _ h => h) c3 ⟨.inl ⟨rfl, ?yy54⟩, fun _ => rfl⟩ ?_
  case yy54 =>
    rintro wx ⟨q1, q2⟩
    go_simp
    first | done | rfl
  refine takeC (i := 13) (v := ?vv55) (by kernel_rfl) (by kernel_rfl) rfl (by kernel_rfl) (by kernel_rfl) (by kernel_rfl) (fun _ _ _ h => h) c3 ⟨.inl ⟨rfl, ?yy55⟩, fun _ => rfl⟩ ?_
  case yy55 =>
    rintro wx ⟨q1, q2⟩
    go_simp
    first | done | rfl
  refine takeC (i := 14) (v := ?vv56) (by kernel_rfl) (by kernel_rfl) rfl (by kernel_rfl) (by kernel_rfl) (by kernel_rfl) (fun _ _ _ h => h) c3 ⟨.inl ⟨rfl, ?yy56⟩, fun _ => rfl⟩ ?_
  case yy56 =>
    rintro wx ⟨q1, q2⟩
    go_simp
    first | done | rfl
  refine takeC (i := 18) (v := ?vv57) (by kernel_rfl) (by kernel_rfl) rfl (by kernel_rfl) (by kernel_rfl) (by kernel_rfl) (fun _ _ _ h => h) c3 ⟨.inl ⟨rfl, ?yy57⟩, fun _ => rfl⟩ ?_
  case yy57 =>
    rintro wx ⟨q1, q2⟩
    go_simp
    first | done | rfl
  refine takeC (i := 19) (v := ?vv58) (by kernel_rfl) (by kernel_rfl) rfl (by kernel_rfl) (by kernel_rfl) (by kernel_rfl) (fun _ _ _ h => h) c3 ⟨.inl ⟨rfl, ?yy58⟩, fun _ => rfl⟩ ?_
  case yy58 =>
    rintro wx ⟨q1, q2⟩
    go_simp
    first | done | rfl
  have hC3 : ∀ W W', (W.cell? ⟨mb, 0, none⟩ = some (.func (.func 80) #[] #[.pointer (some ⟨mb, 0, none⟩)]) ∧ Below W2.heap.size W2 W) → Below W.heap.size W W' → (W'.cell? ⟨mb, 0, none⟩ = some (.func (.func 80) #[] #[.pointer (some ⟨mb, 0, none⟩)]) ∧ Below W2.heap.size W2 W') := fun W W' hc hb =>
    ⟨(hb.cell (p := ⟨mb, 0, none⟩) (lt_of_cell hc.1)).trans hc.1, hc.2.trans (hb.mono hc.2.size)⟩
  have hta := val_lt (Lt_take ht k); have hda := val_lt (Lt_drop ht k); have htb := val_lt (Lt_take ht' k); have hdb := val_lt (Lt_drop ht' k)
  rw [ra.len] at hta; rw [ra2.len] at hda; rw [rb.len] at htb; rw [rb2.len] at hdb
  have hn1 : n1 ≤ 80000 := by
    rw [← hr1.len]
    refine Nat.le_trans (hi1.len (k := k + k) ?_) (by omega)
    rw [Nat.pow_add]
    exact Nat.mul_lt_mul_of_lt_of_le hta (Nat.le_of_lt htb) (Nat.pow_pos BB_pos)
  have hn2 : n2 ≤ 80000 := by
    rw [← hr2.len]
    refine Nat.le_trans (hi2.len (k := (n - k) + (n - k)) ?_) (by omega)
    rw [Nat.pow_add]
    exact Nat.mul_lt_mul_of_lt_of_le hda (Nat.le_of_lt hdb) (Nat.pow_pos BB_pos)
  have hsum : ∀ x y e f : Nat, x < BB ^ e → y < BB ^ f → e ≤ n - 2 → f ≤ n - 2 → x + y < BB ^ (n - 1) := by
    intro x y e f hx hy he hf
    have u1 : BB ^ e ≤ BB ^ (n - 2) := Nat.pow_le_pow_right BB_pos he
    have u2 : BB ^ f ≤ BB ^ (n - 2) := Nat.pow_le_pow_right BB_pos hf
    have u3 : BB ^ (n - 2) * 2 ≤ BB ^ (n - 2) * BB := Nat.mul_le_mul_left _ (by unfold BB; omega)
    have u4 : BB ^ (n - 1) = BB ^ (n - 2) * BB := by rw [← Nat.pow_succ]; congr 1; omega
    omega
  refine flowC (E := KE l l' l1 l2 k (val (l.take k) * val (l'.take k)) (val (l.drop k) * val (l'.drop k))) (by kernel_rfl) (by kernel_rfl) (by kernel_rfl) hC3 (KE_below _ _ _ _ _ _ _) ?hspec ?hfin _ _ _ _ (by kernel_rfl) (by kernel_rfl) (fun _ hh => hh) ⟨c3, rfl, rfl, fun _ _ => rfl, fun i o t hS => absurd hS (by intro hS; rw [hS.1] at hS; cases hS.2)⟩
  case hspec =>
    intro i oo hi hl b5 W5 hf K hK
    have hm := unlisted_mem [7, 8, 15, 16, 17, 20, 21, 22, 23] (by kernel_rfl) hl
    simp only [List.mem_cons, List.not_mem_nil, or_false] at hm
    have bW := b2.trans (hf.cls.2.mono b2.size)
    rcases hm with rfl | rfl | rfl | rfl | rfl | rfl | rfl | rfl | rfl
    · cases hi
      have k46 : b5.tmps[46]?.getD undef = .slice (some ⟨b, o, none⟩) k c := (Array.getD_eq_getD_getElem? ..).symm.trans ((hf.keep 46 (by kernel_rfl)).trans (by kernel_rfl))
      have k49 : b5.tmps[49]?.getD undef = .slice (some ⟨b, o + k, none⟩) (n - k) (c - k) := (Array.getD_eq_getD_getElem? ..).symm.trans ((hf.keep 49 (by kernel_rfl)).trans (by kernel_rfl))
      refine wpOpIn_step rfl (fun K' hK' => ?_)
      go_simp
      exact hK' _ _ (hK _ _ ⟨_, rfl, Rds.two (ra.below bW) (Lt_take ht k) (by omega) (ra2.below bW) (Lt_drop ht k) (by omega) _⟩ ((Below.refl _ W5).alloc (Nat.le_refl _) _))
    · cases hi
      have v7 := hf.vals 7 _ 50 ⟨by kernel_rfl, ⟨7, .data⟩, by simp, by kernel_rfl, rfl⟩ rfl rfl
      rw [Array.getD_eq_getD_getElem?] at v7
      obtain ⟨B, kB, hR⟩ := v7
      refine wpOpIn_step rfl (fun K' hK' => ?_)
      go_simp
      refine CallsIn.mono (callsIn_wide.2 (add_any B 2 2 _ W5 hR (by simp))) ?_
      rintro e W' ⟨A3, n3, c3, l3, rfl, hi3, hr3, hb3⟩
      exact hK' _ _ (hK _ _ ⟨A3, n3, c3, l3, rfl, by simpa using hi3, hr3⟩ hb3)
    · cases hi
      have k54 : b5.tmps[54]?.getD undef = .slice (some ⟨b', o', none⟩) k c' := (Array.getD_eq_getD_getElem? ..).symm.trans ((hf.keep 54 (by kernel_rfl)).trans (by kernel_rfl))
      have k57 : b5.tmps[57]?.getD undef = .slice (some ⟨b', o' + k, none⟩) (n - k) (c' - k) := (Array.getD_eq_getD_getElem? ..).symm.trans ((hf.keep 57 (by kernel_rfl)).trans (by kernel_rfl))
      refine wpOpIn_step rfl (fun K' hK' => ?_)
      go_simp
      exact hK' _ _ (hK _ _ ⟨_, rfl, Rds.two (rb.below bW) (Lt_take ht' k) (by omega) (rb2.below bW) (Lt_drop ht' k) (by omega) _⟩ ((Below.refl _ W5).alloc (Nat.le_refl _) _))
    · cases hi
      have v15 := hf.vals 15 _ 58 ⟨by kernel_rfl, ⟨15, .data⟩, by simp, by kernel_rfl, rfl⟩ rfl rfl
      rw [Array.getD_eq_getD_getElem?] at v15
      obtain ⟨B, kB, hR⟩ := v15
      refine wpOpIn_step rfl (fun K' hK' => ?_)
      go_simp
      refine CallsIn.mono (callsIn_wide.2 (add_any B 2 2 _ W5 hR (by simp))) ?_
      rintro e W' ⟨A3, n3, c3, l3, rfl, hi3, hr3, hb3⟩
      exact hK' _ _ (hK _ _ ⟨A3, n3, c3, l3, rfl, by simpa using hi3, hr3⟩ hb3)
    · cases hi
      have v8 := hf.vals 8 _ 51 ⟨by kernel_rfl, ⟨8, .data⟩, by simp, by kernel_rfl, rfl⟩ rfl rfl
      rw [Array.getD_eq_getD_getElem?] at v8
      obtain ⟨A3, n3, c3, l3, k51, hi3, hr3⟩ := v8
      have v16 := hf.vals 16 _ 59 ⟨by kernel_rfl, ⟨16, .data⟩, by simp, by kernel_rfl, rfl⟩ rfl rfl
      rw [Array.getD_eq_getD_getElem?] at v16
      obtain ⟨A4, n4, c4, l4, k59, hi4, hr4⟩ := v16
      have k43 : b5.tmps[43]?.getD undef = .func (.func 80) #[] #[.pointer (some ⟨mb, 0, none⟩)] := (Array.getD_eq_getD_getElem? ..).symm.trans ((hf.keep 43 (by kernel_rfl)).trans (by kernel_rfl))
      have i3 := ih mb A3 n3 c3 l3 A4 n4 c4 l4 W5 hr3 hr4 hi3.lt hi4.lt (by rw [← hr3.len]; exact hi3.len (hsum _ _ _ _ hta hda (by omega) (by omega))) (by rw [← hr4.len]; exact hi4.len (hsum _ _ _ _ htb hdb (by omega) (by omega))) hf.cls.1
      rw [hi3.val, hi4.val] at i3
      refine wpOpIn_step rfl (fun K' hK' => ?_)
      go_simp
      refine CallsIn.mono (callsIn_wide.2 i3) ?_
      rintro e W' ⟨A7, n7, c7, l7, rfl, hi7, hr7, hb7⟩
      exact hK' _ _ (hK _ _ ⟨A7, n7, c7, l7, rfl, hi7, hr7⟩ hb7)
    · cases hi
      have k61 : b5.tmps[61]?.getD undef = .slice A1 n1 c1 := (Array.getD_eq_getD_getElem? ..).symm.trans ((hf.keep 61 (by kernel_rfl)).trans (by kernel_rfl))
      have k62 : b5.tmps[62]?.getD undef = .slice A2 n2 c2 := (Array.getD_eq_getD_getElem? ..).symm.trans ((hf.keep 62 (by kernel_rfl)).trans (by kernel_rfl))
      refine wpOpIn_step rfl (fun K' hK' => ?_)
      go_simp
      exact hK' _ _ (hK _ _ ⟨_, rfl, Rds.two (hr1'.below hf.cls.2) hi1.lt (by omega) (hr2.below hf.cls.2) hi2.lt (by omega) _⟩ ((Below.refl _ W5).alloc (Nat.le_refl _) _))
    · cases hi
      have v20 := hf.vals 20 _ 63 ⟨by kernel_rfl, ⟨20, .data⟩, by simp, by kernel_rfl, rfl⟩ rfl rfl
      rw [Array.getD_eq_getD_getElem?] at v20
      obtain ⟨B, kB, hR⟩ := v20
      refine wpOpIn_step rfl (fun K' hK' => ?_)
      go_simp
      refine CallsIn.mono (callsIn_wide.2 (add_any B 2 2 _ W5 hR (by simp))) ?_
      rintro e W' ⟨A3, n3, c3, l3, rfl, hi3, hr3, hb3⟩
      exact hK' _ _ (hK _ _ ⟨A3, n3, c3, l3, rfl, by have e9 := hi3; simp only [List.map_cons, List.map_nil, List.sum_cons, List.sum_nil, Nat.add_zero, hi1.val, hi2.val] at e9; exact e9, hr3⟩ hb3)
    · cases hi
      have v17 := hf.vals 17 _ 60 ⟨by kernel_rfl, ⟨17, .data⟩, by simp, by kernel_rfl, rfl⟩ rfl rfl
      rw [Array.getD_eq_getD_getElem?] at v17
      obtain ⟨A3, n3, c3, l3, k60, hi3, hr3⟩ := v17
      have v21 := hf.vals 21 _ 64 ⟨by kernel_rfl, ⟨21, .data⟩, by simp, by kernel_rfl, rfl⟩ rfl rfl
      rw [Array.getD_eq_getD_getElem?] at v21
      obtain ⟨A4, n4, c4, l4, k64, hi4, hr4⟩ := v21
      have hsb := sub_any A3 n3 c3 l3 A4 n4 c4 l4 W5 hr3 hr4 hi3.lt hi4.lt (by rw [hi3.val, hi4.val]; exact kara_le _ _ _ _) (by rw [← hr3.len]; exact Nat.le_trans (hi3.len (k := (n - 1) + (n - 1)) (by rw [Nat.pow_add]; exact Nat.mul_lt_mul_of_lt_of_le (hsum _ _ _ _ hta hda (by omega) (by omega)) (Nat.le_of_lt (hsum _ _ _ _ htb hdb (by omega) (by omega))) (Nat.pow_pos BB_pos))) (by omega)) (by rw [← hr4.len]; exact Nat.le_trans (hi4.len (k := (n - 1) + (n - 1)) (Nat.lt_of_le_of_lt (kara_le _ _ _ _) (by rw [Nat.pow_add]; exact Nat.mul_lt_mul_of_lt_of_le (hsum _ _ _ _ hta hda (by omega) (by omega)) (Nat.le_of_lt (hsum _ _ _ _ htb hdb (by omega) (by omega))) (Nat.pow_pos BB_pos)))) (by omega))
      rw [hi3.val, hi4.val] at hsb
      have hls := pless_any A3 n3 c3 A4 n4 c4 W5 _ hsb
      refine wpOpIn_step rfl (fun K' hK' => ?_)
      go_simp
      refine CallsIn.mono (callsIn_wide.2 hls) ?_
      rintro e W' ⟨A7, n7, c7, l7, rfl, hi7, hr7, hb7⟩
      exact hK' _ _ (hK _ _ ⟨A7, n7, c7, l7, rfl, hi7, hr7⟩ hb7)
    · cases hi
      have v22 := hf.vals 22 _ 65 ⟨by kernel_rfl, ⟨22, .data⟩, by simp, by kernel_rfl, rfl⟩ rfl rfl
      rw [Array.getD_eq_getD_getElem?] at v22
      obtain ⟨A7, n7, c7, l7, k65, hi7, hr7⟩ := v22
      refine wpOpIn_step rfl (fun K' hK' => ?_)
      go_simp
      exact hK' _ _ (hK _ _ ⟨A7, n7, c7, l7, rfl, hi7, hr7⟩ (Below.refl _ W5))
  case hfin =>
    intro b5 W5 hf
    have v23 := hf.vals 23 _ 9 (by kernel_rfl) rfl rfl
    have hE := frame_eq [50, 51, 58, 59, 60, 63, 64, 65, 9] hf.size (fun t ht5 => hf.keep t (not_dst (by rw [show dstList _ _ = [50, 51, 58, 59, 60, 63, 64, 65, 9] from by kernel_rfl]; exact ht5)))
    have hcl5 := hf.cls.2
    obtain ⟨tm, df⟩ := b5
    obtain rfl : df = _ := hf.defers
    clear hf
    obtain ⟨A7, n7, c7, l7, hv9, hi7, hr7⟩ := v23
    simp only [List.foldl_cons, List.foldl_nil, hv9] at hE
    obtain ⟨u1, hu1⟩ : ∃ u, tm.getD 50 undef = u := ⟨_, rfl⟩
    obtain ⟨u2, hu2⟩ : ∃ u, tm.getD 51 undef = u := ⟨_, rfl⟩
    obtain ⟨u3, hu3⟩ : ∃ u, tm.getD 58 undef = u := ⟨_, rfl⟩
    obtain ⟨u4, hu4⟩ : ∃ u, tm.getD 59 undef = u := ⟨_, rfl⟩
    obtain ⟨u5, hu5⟩ : ∃ u, tm.getD 60 undef = u := ⟨_, rfl⟩
    obtain ⟨u6, hu6⟩ : ∃ u, tm.getD 63 undef = u := ⟨_, rfl⟩
    obtain ⟨u7, hu7⟩ : ∃ u, tm.getD 64 undef = u := ⟨_, rfl⟩
    obtain ⟨u8, hu8⟩ : ∃ u, tm.getD 65 undef = u := ⟨_, rfl⟩
    rw [hu1, hu2, hu3, hu4, hu5, hu6, hu7, hu8] at hE
    clear hu1 hu2 hu3 hu4 hu5 hu6 hu7 hu8 hv9
    rewrite [hE]
    clear hE
    rw [noPanic_normal]
    have bW := b2.trans (hcl5.mono b2.size)
    have hn7 : n7 ≤ 100000 := by
      rw [← hr7.len]
      exact Nat.le_trans (hi7.len (k := (n - 1) + (n - 1)) (Nat.lt_of_le_of_lt (Nat.sub_le _ _) (by rw [Nat.pow_add]; exact Nat.mul_lt_mul_of_lt_of_le (hsum _ _ _ _ hta hda (by omega) (by omega)) (Nat.le_of_lt (hsum _ _ _ _ htb hdb (by omega) (by omega))) (Nat.pow_pos BB_pos)))) (by omega)
    have e2k : ((2 * k : Nat) : Int) = 2 * (k : Int) := by omega
    have ab1 := above_any A7 n7 c7 l7 k W5 hr7 hn7 (by omega)
    have ab2 := fun (W : World) (hb : Below W5.heap.size W5 W) => above_any A2 n2 c2 l2 (2 * k) W ((hr2.below hcl5).below hb) (by omega) (by omega)
    rw [e2k] at ab2
    have hr1'' := hr1'.below hcl5
    have hval : val l1 + (BB ^ k * val l7 + (BB ^ (2 * k) * val l2 + 0)) = val l * val l' := by
      rw [val_take_drop l k (by rw [h.len]; omega), val_take_drop l' k (by rw [h'.len]; omega), kara, hi1.val, hi7.val, hi2.val, show BB ^ (2 * k) = BB ^ k * BB ^ k from by rw [← Nat.pow_add, Nat.two_mul]]
      omega
    have HVL := hid hval
    clear hval hta hda htb hdb
    have ML8 : ∀ {W : World} {A : Option Addr} {n8 c8 : Nat}, Rd W A n8 c8 (List.replicate k 0 ++ l7) → n8 ≤ 68719476736 := fun hr => by
      rw [← hr.len, List.length_append, List.length_replicate, hr7.len]
      omega
    have ML9 : ∀ {W : World} {A : Option Addr} {n9 c9 : Nat}, Rd W A n9 c9 (List.replicate (2 * k) 0 ++ l2) → n9 ≤ 68719476736 := fun hr => by
      rw [← hr.len, List.length_append, List.length_replicate, hr2.len]
      omega
    go_simp
    go_wp2_with (first | (go_at_call 83; first | ((with_reducible refine ab1.mono ?_); rintro e w8 ⟨A8, n8, c8, rfl, hr8, hb8⟩; have ab3 := ab2 w8 hb8) | ((with_reducible refine ab3.mono ?_); rintro e w9 ⟨A9, n9, c9, rfl, hr9, hb9⟩; have hr8' := hr8.below hb9; have hr19 := (hr1''.below hb8).below hb9; have hds := Rds.three hr19 hi1.lt (Nat.le_trans hn1 (by decide)) hr8' (Lt_append (Lt_replicate k) hi7.lt) (ML8 hr8) hr9 (Lt_append (Lt_replicate (2 * k)) hi2.lt) (ML9 hr9) 23; have hadd := add_any _ 3 3 _ _ hds (by decide))) | (go_at_call 37; refine hadd.mono ?_; rintro e wa ⟨Aa, na, ca, la, rfl, hia, hra, hba⟩))
    go_ret
    have b8 := bW.trans (hb8.mono bW.size)
    have b9 := b8.trans (hb9.mono b8.size)
    have ba := b9.alloc b9.size (Obj.cells #[Value.slice A1 n1 c1, Value.slice A8 n8 c8, Value.slice A9 n9 c9] 23)
    refine ⟨Aa, na, ca, la, rfl, ?_, hra, ba.trans (hba.mono ba.size)⟩
    have e9 := hia
    simp only [List.map_cons, List.map_nil, List.sum_cons, List.sum_nil, val_append, val_replicate, List.length_replicate, Nat.zero_add] at e9
    have h9 : val l1 + (BB ^ k * val l7 + (BB ^ (2 * k) * val l2 + 0)) = val l * val l' := HVL
    rw [h9] at e9
    exact e9
end Go.Proofs.Wd

namespace Go.Proofs.Wd
open Go.RowKit Lb
attribute [local go_sem] Oper.semAt_some wide_fn wide_depth

/-- A sum or a product on its way. -/
def AccI (w : World) (B : Nat) (f : Nat → Int) (n : Nat) (ix : Value) (W : World) : Prop :=
  ∃ (k : Nat) (A : Option Addr) (m c : Nat) (l : List Nat), k ≤ n ∧ ix = .int .i64 k ∧ BoxN W B 25 #[.bool (decide (f k < 0)), .slice A m c] ∧ Is l (f k).natAbs ∧ Rd W A m c l ∧
    BoxN W w.heap.size 25 #[.bool false, .slice none 0 0] ∧ Below w.heap.size w W

set_option maxRecDepth 100000 in
set_option maxHeartbeats 1000000 in
theorem r5add_any (A : Option Addr) (n c : Nat) (is : List (Bool × List Nat)) (m M : Nat) (w : World) (h : IRdM m w A n is) (hn : n ≤ c) (hc : c ≤ 9223372036854775807) (hmM : m ≤ M) (hM : M ≤ 100000) (hv : ∀ k, k ≤ n → (isum is k).natAbs < BB ^ M) (hnn : n ≤ 1000000 := by first | omega | decide) :
    Calls Try.prog 14 #[.slice A n c] w (RetInt w (isum is n)) := by
  have hmix : Try.prog.follows .mixedOrders = true := by kernel_rfl
  go_enter Try.func14, Try.ntmps14
  go_wp2
  go_loopw [4] (AccI w (w.heap.size + 1) (isum is) n) (fun i _ => n - (intOf i).toNat)
  case atStart => exact ⟨0, none, 0, 0, [], Nat.zero_le _, rfl, BoxN.at_ _ _ _ (by simp), Is.nil, Rd.nil_ _, (BoxN.new w _ _).alloc _, ((Below.refl _ w).alloc (Nat.le_refl _) _).alloc (by simp) _⟩
  case round =>
    obtain ⟨k, Ao, mo, co, lo, hk, rfl, hx1, hio, hro, hx0, hB⟩ := hrel
    obtain ⟨v, hvk⟩ : ∃ v, isum is k = v := ⟨_, rfl⟩
    have hvb := hv k hk
    rw [hvk] at hx1 hio hvb
    have hmo : mo ≤ M := by rw [← hro.len]; exact hio.len hvb
    have HV := hid hvk
    clear hvk
    by_cases hkn : k < n
    · obtain ⟨b, o, s, Ai, ni, ci, li, rfl, p1, p2, hi, hri, hli, hni⟩ := (h.below hB).cells k hkn
      have HI := hid hi
      clear hi
      have hb1 := hx1.lt
      go_wp2
      refine (wpIn_wide (n := 0)).1 ?_
      have cf : ∀ W, Below wr.heap.size wr W → (W.cell? ⟨w.heap.size + 1, 0, none⟩ = some (.bool (decide (v < 0))) ∧ W.cell? ⟨w.heap.size + 1, 1, none⟩ = some (.slice Ao mo co)) ∧ W.cell? ⟨b, o + k * 2, none⟩ = some (.bool s) ∧ W.cell? ⟨b, o + k * 2 + 1, none⟩ = some (.slice Ai ni ci) := fun W hb =>
        ⟨(hx1.kept hb).facts2.1, (hb.cell (p := ⟨b, o + k * 2, none⟩) (lt_of_cell p1)).trans p1, (hb.cell (p := ⟨b, o + k * 2 + 1, none⟩) (lt_of_cell p2)).trans p2⟩
      refine wpIn_region_C 7 (fun W => (W.cell? ⟨w.heap.size + 1, 0, none⟩ = some (.bool (decide (v < 0))) ∧ W.cell? ⟨w.heap.size + 1, 1, none⟩ = some (.slice Ao mo co)) ∧ W.cell? ⟨b, o + k * 2, none⟩ = some (.bool s) ∧ W.cell? ⟨b, o + k * 2 + 1, none⟩ = some (.slice Ai ni ci)) hmix ?_
      have d1 := cf _ (Below.refl _ wr).drew
      refine takeC (i := 0) (v := ?vv1) (by kernel_rfl) (by kernel_rfl) rfl (by kernel_rfl) (by kernel_rfl) (by kernel_rfl) (fun _ _ _ h => h) d1 ⟨.inl ⟨rfl, ?yy1⟩, fun _ => rfl⟩ ?_
      case yy1 =>
        rintro wx ⟨⟨q1, q2⟩, q3, q4⟩
        go_simp
        first | done | rfl
      refine takeC (i := 1) (v := ?vv2) (by kernel_rfl) (by kernel_rfl) rfl (by kernel_rfl) (by kernel_rfl) (by kernel_rfl) (fun _ _ _ h => h) d1 ⟨.inl ⟨rfl, ?yy2⟩, fun _ => rfl⟩ ?_
      case yy2 =>
        rintro wx ⟨⟨q1, q2⟩, q3, q4⟩
        go_simp
        first | done | rfl
      refine takeC (i := 2) (v := ?vv3) (by kernel_rfl) (by kernel_rfl) rfl (by kernel_rfl) (by kernel_rfl) (by kernel_rfl) (fun _ _ _ h => h) d1 ⟨.inl ⟨rfl, ?yy3⟩, fun _ => rfl⟩ ?_
      case yy3 =>
        rintro wx ⟨⟨q1, q2⟩, q3, q4⟩
        go_simp
        first | done | rfl
      refine takeC (i := 3) (v := ?vv4) (by kernel_rfl) (by kernel_rfl) rfl (by kernel_rfl) (by kernel_rfl) (by kernel_rfl) (fun _ _ _ h => h) d1 ⟨.inl ⟨rfl, ?yy4⟩, fun _ => rfl⟩ ?_
      case yy4 =>
        rintro wx ⟨⟨q1, q2⟩, q3, q4⟩
        go_simp
        first | done | rfl
      refine takeC (i := 4) (v := ?vv5) (by kernel_rfl) (by kernel_rfl) rfl (by kernel_rfl) (by kernel_rfl) (by kernel_rfl) (fun _ _ _ h => h) d1 ⟨.inl ⟨rfl, ?yy5⟩, fun _ => rfl⟩ ?_
      case yy5 =>
        rintro wx ⟨⟨q1, q2⟩, q3, q4⟩
        go_simp
        first | done | rfl
      have hnm := r5norm_any s Ai ni ci li wr.drew hri.drew hli (by omega)
      refine oneC (i := 5) (by kernel_rfl) rfl (fun K hK => ?_)
      go_simp
      refine CallsIn.mono (callsIn_wide.2 hnm) ?_
      rintro e w2 ⟨A2, n2, c2, l2, rfl, hi2, hr2, hb2⟩
      have hB2 : Below wr.heap.size wr w2 := (Below.refl _ wr).drew.trans hb2
      refine hK _ _ (.inr (cf _ hB2)) ?_
      clear hK K
      have hn2 : n2 ≤ M := by
        rw [← hr2.len]
        exact Nat.le_trans (hi2.len (iv_bound hli hri.len hni)) hmM
      have htw := r5two_any (decide (v < 0)) Ao mo co lo (decide (iv s li < 0)) A2 n2 c2 l2 w2 (hro.below hB2) hio.lt hr2 hi2.lt M hmo hn2 hM
      rw [iv_norm hio, iv_norm hi2] at htw
      have hsum : v + iv s li = isum is (k + 1) := by
        show _ = isum is k + ivAt is k
        rw [HV.out]
        unfold ivAt
        rw [HI.out]
        rfl
      have HS := hid hsum
      obtain ⟨v3, hv3⟩ : ∃ v3, v + iv s li = v3 := ⟨_, rfl⟩
      rw [hv3] at htw HS
      clear hsum
      refine oneC (i := 6) (by kernel_rfl) rfl (fun K hK => ?_)
      go_simp
      refine CallsIn.mono (callsIn_wide.2 htw) ?_
      rintro e w3 ⟨A3, n3, c3, l3, rfl, hi3, hr3, hb3⟩
      have hB3 : Below wr.heap.size wr w3 := hB2.trans (hb3.mono hB2.size)
      refine hK _ _ (.inr (cf _ hB3)) ?_
      clear hK K
      have hq := hx1.kept hB3
      obtain ⟨⟨m0, m1⟩, m2, m3⟩ := hq.facts2
      have hq0 := hx0.kept hB3
      refine oneC (i := 7) (by kernel_rfl) rfl (fun K hK => ?_)
      go_simp
      refine hK _ _ (.inl rfl) ?_
      clear hK K
      refine doneP (by kernel_rfl) ?_
      go_wp2
      go_roundw
      case rel =>
        have e1 := HS.out
        refine ⟨k + 1, A3, n3, c3, l3, by omega, by go_num, ?_, by rw [← e1]; exact hi3, (hr3.setN hq (i := 0) rfl (fun _ => by simp) _).setN (hq.set 0 _) (i := 1) rfl (fun _ => by simp) _, ?_, ?_⟩
        · rw [← e1]
          exact (hq.set 0 _).set 1 _
        · exact (hq0.other (p := ⟨w.heap.size + 1, 0, none⟩) (by simp) _).other (p := ⟨w.heap.size + 1, 1, none⟩) (by simp) _
        · exact ((hB.trans (hB3.mono hB.size)).setCell (p := ⟨w.heap.size + 1, 0, none⟩) (by simp) _).setCell (p := ⟨w.heap.size + 1, 1, none⟩) (by simp) _
      case measure => simp [intOf]; omega
    · obtain rfl : k = n := by omega
      obtain ⟨⟨g0, g1⟩, _, _⟩ := hx1.facts2
      have hnm := r5norm_any (decide (v < 0)) Ao mo co lo wr hro hio.lt (by omega)
      rw [iv_norm hio] at hnm
      go_wp2_with (go_at_call 16; refine hnm.mono ?_; rintro e w4 ⟨A4, n4, c4, l4, rfl, hi4, hr4, hb4⟩; have hq := hx0.kept hb4; obtain ⟨⟨m0, m1⟩, m2, m3⟩ := hq.facts2)
      obtain ⟨⟨c0, c1⟩, _, _⟩ := ((hq.set 0 (.bool (decide (v < 0)))).set 1 (.slice A4 n4 c4)).facts2
      refine bodyPost_ret (v := .agg #[.bool (decide (v < 0)), .slice A4 n4 c4]) (by simp [results, Try.results14, go_sem, c0, c1]) rfl ?_
      rw [HV.out]
      exact ret2 hq (hB.trans (hb4.mono hB.size)) (Nat.le_refl _) hi4 hr4

set_option maxRecDepth 100000 in
set_option maxHeartbeats 1000000 in
theorem r5mul_any (A : Option Addr) (n c : Nat) (is : List (Bool × List Nat)) (m M : Nat) (w : World) (h : IRdM m w A n is) (hn : n ≤ c) (hc : c ≤ 9223372036854775807) (hmM : m ≤ M) (hM : M ≤ 50000) (hv : ∀ k, k ≤ n → (iprod is k).natAbs < BB ^ M) (hnn : n ≤ 1000000 := by first | omega | decide) :
    Calls Try.prog 15 #[.slice A n c] w (RetInt w (iprod is n)) := by
  have hmix : Try.prog.follows .mixedOrders = true := by kernel_rfl
  go_enter Try.func15, Try.ntmps15
  have hof := r5of_any 1 (by omega) (by omega) (w.alloc (.cells #[.bool false, .slice none 0 0] 25))
  go_wp2_with (go_at_call 32; refine hof.mono ?_; rintro e w0 ⟨A0, n0, c0, l0, rfl, hi0, hr0, hb0⟩)
  have hBs : w.heap.size < w0.heap.size := Nat.lt_of_lt_of_le (by simp) hb0.size
  have hst : AccI w w0.heap.size (iprod is) n (.int .i64 0) (w0.alloc (.cells #[.bool false, .slice A0 n0 c0] 25)) := by
    refine ⟨0, A0, n0, c0, l0, Nat.zero_le _, rfl, BoxN.at_ _ _ _ rfl, hi0, hr0.alloc _, ((BoxN.new w _ _).kept hb0).alloc _, ?_⟩
    have t1 := ((Below.refl _ w).alloc (Nat.le_refl _) (.cells #[.bool false, .slice none 0 0] 25)).trans (hb0.mono (by simp))
    exact t1.alloc t1.size _
  go_loopw [4] (AccI w w0.heap.size (iprod is) n) (fun i _ => n - (intOf i).toNat)
  case atStart => exact hst
  case round =>
    obtain ⟨k, Ao, mo, co, lo, hk, rfl, hx1, hio, hro, hx0, hB⟩ := hrel
    obtain ⟨v, hvk⟩ : ∃ v, iprod is k = v := ⟨_, rfl⟩
    have hvb := hv k hk
    rw [hvk] at hx1 hio hvb
    have hmo : mo ≤ M := by rw [← hro.len]; exact hio.len hvb
    have HV := hid hvk
    clear hvk
    by_cases hkn : k < n
    · obtain ⟨b, o, s, Ai, ni, ci, li, rfl, p1, p2, hi, hri, hli, hni⟩ := (h.below hB).cells k hkn
      have HI := hid hi
      clear hi
      go_wp2
      refine (wpIn_wide (n := 0)).1 ?_
      have cf : ∀ W, Below wr.heap.size wr W → (W.cell? ⟨w0.heap.size, 0, none⟩ = some (.bool (decide (v < 0))) ∧ W.cell? ⟨w0.heap.size, 1, none⟩ = some (.slice Ao mo co)) ∧ W.cell? ⟨b, o + k * 2, none⟩ = some (.bool s) ∧ W.cell? ⟨b, o + k * 2 + 1, none⟩ = some (.slice Ai ni ci) := fun W hb =>
        ⟨(hx1.kept hb).facts2.1, (hb.cell (p := ⟨b, o + k * 2, none⟩) (lt_of_cell p1)).trans p1, (hb.cell (p := ⟨b, o + k * 2 + 1, none⟩) (lt_of_cell p2)).trans p2⟩
      refine wpIn_region_C 18 (fun W => (W.cell? ⟨w0.heap.size, 0, none⟩ = some (.bool (decide (v < 0))) ∧ W.cell? ⟨w0.heap.size, 1, none⟩ = some (.slice Ao mo co)) ∧ W.cell? ⟨b, o + k * 2, none⟩ = some (.bool s) ∧ W.cell? ⟨b, o + k * 2 + 1, none⟩ = some (.slice Ai ni ci)) hmix ?_
      have d1 := cf _ (Below.refl _ wr).drew
      refine takeC (i := 0) (v := ?vv6) (by kernel_rfl) (by kernel_rfl) rfl (by kernel_rfl) (by kernel_rfl) (by kernel_rfl) (fun _ _ _ h => h) d1 ⟨.inl ⟨rfl, ?yy6⟩, fun _ => rfl⟩ ?_
      case yy6 =>
        rintro wx ⟨⟨q1, q2⟩, q3, q4⟩
        go_simp
        first | done | rfl
      refine takeC (i := 1) (v := ?vv7) (by kernel_rfl) (by kernel_rfl) rfl (by kernel_rfl) (by kernel_rfl) (by kernel_rfl) (fun _ _ _ h => h) d1 ⟨.inl ⟨rfl, ?yy7⟩, fun _ => rfl⟩ ?_
      case yy7 =>
        rintro wx ⟨⟨q1, q2⟩, q3, q4⟩
        go_simp
        first | done | rfl
      refine takeC (i := 2) (v := ?vv8) (by kernel_rfl) (by kernel_rfl) rfl (by kernel_rfl) (by kernel_rfl) (by kernel_rfl) (fun _ _ _ h => h) d1 ⟨.inl ⟨rfl, ?yy8⟩, fun _ => rfl⟩ ?_
      case yy8 =>
        rintro wx ⟨⟨q1, q2⟩, q3, q4⟩
        go_simp
        first | done | rfl
      refine takeC (i := 3) (v := ?vv9) (by kernel_rfl) (by kernel_rfl) rfl (by kernel_rfl) (by kernel_rfl) (by kernel_rfl) (fun _ _ _ h => h) d1 ⟨.inl ⟨rfl, ?yy9⟩, fun _ => rfl⟩ ?_
      case yy9 =>
        rintro wx ⟨⟨q1, q2⟩, q3, q4⟩
        go_simp
        first | done | rfl
      refine takeC (i := 4) (v := ?vv10) (by kernel_rfl) (by kernel_rfl) rfl (by kernel_rfl) (by kernel_rfl) (by kernel_rfl) (fun _ _ _ h => h) d1 ⟨.inl ⟨rfl, ?yy10⟩, fun _ => rfl⟩ ?_
      case yy10 =>
        rintro wx ⟨⟨q1, q2⟩, q3, q4⟩
        go_simp
        first | done | rfl
      refine takeC (i := 5) (v := ?vv11) (by kernel_rfl) (by kernel_rfl) rfl (by kernel_rfl) (by kernel_rfl) (by kernel_rfl) (fun _ _ _ h => h) d1 ⟨.inl ⟨rfl, ?yy11⟩, fun _ => rfl⟩ ?_
      case yy11 =>
        rintro wx ⟨⟨q1, q2⟩, q3, q4⟩
        go_simp
        first | done | rfl
      refine takeC (i := 6) (v := ?vv12) (by kernel_rfl) (by kernel_rfl) rfl (by kernel_rfl) (by kernel_rfl) (by kernel_rfl) (fun _ _ _ h => h) d1 ⟨.inl ⟨rfl, ?yy12⟩, fun _ => rfl⟩ ?_
      case yy12 =>
        rintro wx ⟨⟨q1, q2⟩, q3, q4⟩
        go_simp
        first | done | rfl
      refine takeC (i := 7) (v := ?vv13) (by kernel_rfl) (by kernel_rfl) rfl (by kernel_rfl) (by kernel_rfl) (by kernel_rfl) (fun _ _ _ h => h) d1 ⟨.inl ⟨rfl, ?yy13⟩, fun _ => rfl⟩ ?_
      case yy13 =>
        rintro wx ⟨⟨q1, q2⟩, q3, q4⟩
        go_simp
        first | done | rfl
      refine takeC (i := 8) (v := ?vv14) (by kernel_rfl) (by kernel_rfl) rfl (by kernel_rfl) (by kernel_rfl) (by kernel_rfl) (fun _ _ _ h => h) d1 ⟨.inl ⟨rfl, ?yy14⟩, fun _ => rfl⟩ ?_
      case yy14 =>
        rintro wx ⟨⟨q1, q2⟩, q3, q4⟩
        go_simp
        first | done | rfl
      refine takeC (i := 9) (v := ?vv15) (by kernel_rfl) (by kernel_rfl) rfl (by kernel_rfl) (by kernel_rfl) (by kernel_rfl) (fun _ _ _ h => h) d1 ⟨.inl ⟨rfl, ?yy15⟩, fun _ => rfl⟩ ?_
      case yy15 =>
        rintro wx ⟨⟨q1, q2⟩, q3, q4⟩
        go_simp
        first | done | rfl
      refine takeC (i := 10) (v := ?vv16) (by kernel_rfl) (by kernel_rfl) rfl (by kernel_rfl) (by kernel_rfl) (by kernel_rfl) (fun _ _ _ h => h) d1 ⟨.inl ⟨rfl, ?yy16⟩, fun _ => rfl⟩ ?_
      case yy16 =>
        rintro wx ⟨⟨q1, q2⟩, q3, q4⟩
        go_simp
        first | done | rfl
      refine takeC (i := 11) (v := ?vv17) (by kernel_rfl) (by kernel_rfl) rfl (by kernel_rfl) (by kernel_rfl) (by kernel_rfl) (fun _ _ _ h => h) d1 ⟨.inl ⟨rfl, ?yy17⟩, fun _ => rfl⟩ ?_
      case yy17 =>
        rintro wx ⟨⟨q1, q2⟩, q3, q4⟩
        go_simp
        first | done | rfl
      refine takeC (i := 12) (v := ?vv18) (by kernel_rfl) (by kernel_rfl) rfl (by kernel_rfl) (by kernel_rfl) (by kernel_rfl) (fun _ _ _ h => h) d1 ⟨.inl ⟨rfl, ?yy18⟩, fun _ => rfl⟩ ?_
      case yy18 =>
        rintro wx ⟨⟨q1, q2⟩, q3, q4⟩
        go_simp
        first | done | rfl
      refine takeC (i := 13) (v := ?vv19) (by kernel_rfl) (by kernel_rfl) rfl (by kernel_rfl) (by kernel_rfl) (by kernel_rfl) (fun _ _ _ h => h) d1 ⟨.inl ⟨rfl, ?yy19⟩, fun _ => rfl⟩ ?_
      case yy19 =>
        rintro wx ⟨⟨q1, q2⟩, q3, q4⟩
        go_simp
        first | done | rfl
      refine takeC (i := 14) (v := ?vv20) (by kernel_rfl) (by kernel_rfl) rfl (by kernel_rfl) (by kernel_rfl) (by kernel_rfl) (fun _ _ _ h => h) d1 ⟨.inl ⟨rfl, ?yy20⟩, fun _ => rfl⟩ ?_
      case yy20 =>
        rintro wx ⟨⟨q1, q2⟩, q3, q4⟩
        go_simp
        first | done | rfl
      have hml := rmul_any Ao mo co lo Ai ni ci li wr.drew hro.drew hri.drew hio.lt hli (by omega) (by omega)
      refine oneC (i := 15) (by kernel_rfl) rfl (fun K hK => ?_)
      go_simp
      refine CallsIn.mono (callsIn_wide.2 hml) ?_
      rintro e w2 ⟨A2, n2, c2, l2, rfl, hi2, hr2, hb2⟩
      have hB2 : Below wr.heap.size wr w2 := (Below.refl _ wr).drew.trans hb2
      refine hK _ _ (.inr (cf _ hB2)) ?_
      clear hK K
      have dd2 := cf _ hB2
      refine oneC (i := 16) (by kernel_rfl) rfl (fun K hK => ?_)
      go_simp
      refine hK _ _ (.inr dd2) ?_
      clear hK K
      have hn2 : n2 ≤ M + m := by
        rw [← hr2.len]
        refine hi2.len ?_
        have e1 := hio.lt_pow; have e2 := val_lt hli
        rw [hio.val, Nat.pow_add]
        rw [hri.len] at e2
        have e3 : BB ^ ni ≤ BB ^ m := Nat.pow_le_pow_right BB_pos hni
        exact Nat.lt_of_lt_of_le (Nat.mul_lt_mul_of_lt_of_le hvb (Nat.le_of_lt (Nat.lt_of_lt_of_le e2 e3)) (Nat.pow_pos BB_pos)) (Nat.le_refl _)
      have htw := r5norm_any (decide (v < 0) != s) A2 n2 c2 l2 w2 hr2 hi2.lt (by omega)
      rw [iv_mul hi2.val, iv_norm hio] at htw
      have hsum : v * iv s li = iprod is (k + 1) := by
        show _ = iprod is k * ivAt is k
        rw [HV.out]
        unfold ivAt
        rw [HI.out]
        rfl
      have HS := hid hsum
      obtain ⟨v3, hv3⟩ : ∃ v3, v * iv s li = v3 := ⟨_, rfl⟩
      rw [hv3] at htw HS
      clear hsum
      refine oneC (i := 17) (by kernel_rfl) rfl (fun K hK => ?_)
      go_simp
      refine CallsIn.mono (callsIn_wide.2 htw) ?_
      rintro e w3 ⟨A3, n3, c3, l3, rfl, hi3, hr3, hb3⟩
      have hB3 : Below wr.heap.size wr w3 := hB2.trans (hb3.mono hB2.size)
      refine hK _ _ (.inr (cf _ hB3)) ?_
      clear hK K
      have hq := hx1.kept hB3
      obtain ⟨⟨m0, m1⟩, m2, m3⟩ := hq.facts2
      have hq0 := hx0.kept hB3
      refine oneC (i := 18) (by kernel_rfl) rfl (fun K hK => ?_)
      go_simp
      refine hK _ _ (.inl rfl) ?_
      clear hK K
      refine doneP (by kernel_rfl) ?_
      go_wp2
      go_roundw
      case rel =>
        have e1 := HS.out
        refine ⟨k + 1, A3, n3, c3, l3, by omega, by go_num, ?_, by rw [← e1]; exact hi3, (hr3.setN hq (i := 0) rfl (fun _ => by simp) _).setN (hq.set 0 _) (i := 1) rfl (fun _ => by simp) _, ?_, ?_⟩
        · rw [← e1]
          exact (hq.set 0 _).set 1 _
        · exact (hq0.other (p := ⟨w0.heap.size, 0, none⟩) (by simp; omega) _).other (p := ⟨w0.heap.size, 1, none⟩) (by simp; omega) _
        · exact ((hB.trans (hB3.mono hB.size)).setCell (p := ⟨w0.heap.size, 0, none⟩) (by simp; omega) _).setCell (p := ⟨w0.heap.size, 1, none⟩) (by simp; omega) _
      case measure => simp [intOf]; omega
    · obtain rfl : k = n := by omega
      obtain ⟨⟨g0, g1⟩, _, _⟩ := hx1.facts2
      obtain ⟨⟨m0, m1⟩, m2, m3⟩ := hx0.facts2
      go_wp2
      obtain ⟨⟨c0, c1⟩, _, _⟩ := ((hx0.set 0 (.bool (decide (v < 0)))).set 1 (.slice Ao mo co)).facts2
      refine bodyPost_ret (v := .agg #[.bool (decide (v < 0)), .slice Ao mo co]) (by simp [results, Try.results15, go_sem, c0, c1]) rfl ?_
      rw [HV.out]
      exact ret2 hx0 hB (Nat.le_refl _) hio hro

theorem r5add_v {W : World} {m : Nat} {v : Value} {is : List (Bool × List Nat)} (M : Nat) (h : IS W m v is) (hn : is.length ≤ 1000000) (hmM : m ≤ M) (hM : M ≤ 100000) (hv : ∀ k, k ≤ is.length → (isum is k).natAbs < BB ^ M) : Calls Try.prog 14 #[v] W (RetV W (isum is is.length)) := by
  obtain ⟨A, c, rfl, h3, h4, h2⟩ := h
  exact (r5add_any A is.length c is m M W h2 h3 h4 hmM hM hv).mono fun _ _ => RetInt.v
theorem r5mul_v {W : World} {m : Nat} {v : Value} {is : List (Bool × List Nat)} (M : Nat) (h : IS W m v is) (hn : is.length ≤ 1000000) (hmM : m ≤ M) (hM : M ≤ 50000) (hv : ∀ k, k ≤ is.length → (iprod is k).natAbs < BB ^ M) : Calls Try.prog 15 #[v] W (RetV W (iprod is is.length)) := by
  obtain ⟨A, c, rfl, h3, h4, h2⟩ := h
  exact (r5mul_any A is.length c is m M W h2 h3 h4 hmM hM hv).mono fun _ _ => RetInt.v
end Go.Proofs.Wd

namespace Go.Proofs.Wd
open Go.RowKit Lb
attribute [local go_sem] Oper.semAt_some wide_fn wide_depth

set_option maxHeartbeats 400000 in
theorem r5neg_any (s : Bool) (A : Option Addr) (n c : Nat) (l : List Nat) (w : World) (h : Rd w A n c l) (ht : Lt l) (hl : n ≤ 1099511627776) :
    Calls Try.prog 33 #[.agg #[.bool s, .slice A n c]] w (RetInt w (-iv s l)) := by
  go_enter Try.func33, Try.ntmps33
  go_wp2_with (go_at_call 16; refine (r5norm_any (!s) A n c l _ ((h.alloc _).alloc _) ht hl).mono ?_; rintro e w1 ⟨A2, n2, c2, l2, rfl, hi2, hr2, hb⟩; have hq := res2 hb (b := w.heap.size + 1) (by simp); obtain ⟨⟨q0, q1⟩, q2, q3⟩ := hq.facts2)
  obtain ⟨⟨c0, c1⟩, _, _⟩ := ((hq.set 0 (.bool (decide (iv (!s) l < 0)))).set 1 (.slice A2 n2 c2)).facts2
  refine bodyPost_ret (v := .agg #[.bool (decide (iv (!s) l < 0)), .slice A2 n2 c2]) (by simp [results, Try.results33, go_sem, c0, c1]) rfl ?_
  rw [← iv_not]
  exact ret2 hq ((((Below.refl _ w).alloc (Nat.le_refl _) _).alloc (by simp) _).trans (hb.mono (by simp; omega))) (by simp) hi2 hr2

set_option maxRecDepth 100000 in
set_option maxHeartbeats 1000000 in
theorem r5sub_any (s : Bool) (A : Option Addr) (n c : Nat) (l : List Nat) (s' : Bool) (A' : Option Addr) (n' c' : Nat) (l' : List Nat) (w : World) (h : Rd w A n c l) (ht : Lt l) (h' : Rd w A' n' c' l') (ht' : Lt l') (m : Nat) (hl : n ≤ m) (hl' : n' ≤ m) (hm : m ≤ 90000) :
    Calls Try.prog 34 #[.agg #[.bool s, .slice A n c], .agg #[.bool s', .slice A' n' c']] w (RetInt w (iv s l - iv s' l')) := by
  have hmix : Try.prog.follows .mixedOrders = true := by kernel_rfl
  go_enter Try.func34, Try.ntmps34
  go_wp2
  refine (wpIn_wide (n := 0)).1 ?_
  obtain ⟨W0, hW0⟩ : ∃ W0, (((w.alloc (.cells #[.bool s, .slice A n c] 25)).alloc (.cells #[.bool s', .slice A' n' c'] 25)).alloc (.cells #[.bool false, .slice none 0 0] 25)) = W0 := ⟨_, rfl⟩
  have x0 : BoxN W0 w.heap.size 25 #[.bool s, .slice A n c] := by rw [← hW0]; exact ((BoxN.new w _ _).alloc _).alloc _
  have x1 : BoxN W0 (w.heap.size + 1) 25 #[.bool s', .slice A' n' c'] := by rw [← hW0]; exact (BoxN.at_ _ _ _ (by simp)).alloc _
  have x2 : BoxN W0 (w.heap.size + 1 + 1) 25 #[.bool false, .slice none 0 0] := by rw [← hW0]; exact BoxN.at_ _ _ _ (by simp)
  have hB0 : Below w.heap.size w W0 := by rw [← hW0]; exact (((Below.refl _ w).alloc (Nat.le_refl _) _).alloc (by simp) _).alloc (by simp; omega) _
  rw [hW0]
  clear hW0
  refine wpIn_region_C 100 (fun W => (W.cell? ⟨w.heap.size, 0, none⟩ = some (.bool s) ∧ W.cell? ⟨w.heap.size, 1, none⟩ = some (.slice A n c)) ∧ W.cell? ⟨w.heap.size + 1, 0, none⟩ = some (.bool s') ∧ W.cell? ⟨w.heap.size + 1, 1, none⟩ = some (.slice A' n' c')) hmix ?_
  have d1 := And.intro x0.facts2.1 x1.facts2.1
  refine takeC (i := 0) (v := ?vv1) (by kernel_rfl) (by kernel_rfl) rfl (by kernel_rfl) (by kernel_rfl) (by kernel_rfl) (fun _ _ _ h => h) d1 ⟨.inl ⟨rfl, ?yy1⟩, fun _ => rfl⟩ ?_
  case yy1 =>
    rintro wx ⟨⟨q1, q2⟩, q3, q4⟩
    go_simp
    first | done | rfl
  refine takeC (i := 1) (v := ?vv2) (by kernel_rfl) (by kernel_rfl) rfl (by kernel_rfl) (by kernel_rfl) (by kernel_rfl) (fun _ _ _ h => h) d1 ⟨.inl ⟨rfl, ?yy2⟩, fun _ => rfl⟩ ?_
  case yy2 =>
    rintro wx ⟨⟨q1, q2⟩, q3, q4⟩
    go_simp
    first | done | rfl
  refine oneC (i := 2) (by kernel_rfl) rfl (fun K hK => ?_)
  go_simp
  have hneg := r5neg_any s' A' n' c' l' _ ((h'.below hB0).drew) ht' (by omega)
  obtain ⟨v2, hv2⟩ : ∃ v2, -iv s' l' = v2 := ⟨_, rfl⟩
  rw [hv2] at hneg
  refine CallsIn.mono (callsIn_wide.2 hneg) ?_
  rintro e w2 ⟨A2, n2, c2, l2, rfl, hi2, hr2, hb2⟩
  have hB2 : Below W0.heap.size W0 w2 := ((Below.refl _ W0).drew).trans hb2
  have d2 := And.intro (x0.kept hB2).facts2.1 (x1.kept hB2).facts2.1
  have hn2 : n2 ≤ m := by
    rw [← hr2.len]
    refine hi2.len ?_
    rw [← hv2, Int.natAbs_neg]
    exact iv_bound ht' h'.len hl'
  refine hK _ _ (.inr d2) ?_
  clear hK K
  refine oneC (i := 3) (by kernel_rfl) rfl (fun K hK => ?_)
  go_simp
  have hds : IRdM m _ _ _ _ := IRd.two (s := s) (s' := decide (v2 < 0)) (h.below (hB0.trans (hB2.mono hB0.size))) ht (by omega) hr2 hi2.lt (by omega) 25
  have hW3 : Below W0.heap.size W0 (w2.alloc (.cells #[.bool s, .slice A n c, .bool (decide (v2 < 0)), .slice A2 n2 c2] 25)) := hB2.alloc hB2.size _
  refine hK _ _ (.inr ⟨(x0.kept hW3).facts2.1, (x1.kept hW3).facts2.1⟩) ?_
  clear hK K
  refine oneC (i := 4) (by kernel_rfl) rfl (fun K hK => ?_)
  go_simp
  have hvm := ivAt_two (s, l) (decide (v2 < 0), l2) m (iv_bound ht h.len hl) (iv_bound hi2.lt hr2.len hn2)
  have hsum : isum [(s, l), (decide (v2 < 0), l2)] 2 = iv s l - iv s' l' := by
    show (0 + iv s l) + iv (decide (v2 < 0)) l2 = _
    rw [iv_norm hi2]
    omega
  have hvs : ∀ k, k ≤ 2 → (isum [(s, l), (decide (v2 < 0), l2)] k).natAbs < BB ^ (m + 1) := by
    intro k hk
    have e0 := iv_bound (s := s) ht h.len hl; have e2 := iv_bound (s := s') ht' h'.len hl'
    have e3 : 0 < BB ^ m := Nat.pow_pos (by decide)
    rw [show BB ^ (m + 1) = BB ^ m * 4294967296 from by rw [Nat.pow_succ]; rfl]
    rcases (by omega : k = 0 ∨ k = 1 ∨ k = 2) with rfl | rfl | rfl
    · show (0 : Int).natAbs < _
      rw [Int.natAbs_zero]; omega
    · show (0 + iv s l).natAbs < _
      rw [Int.zero_add]; omega
    · rw [hsum]; omega
  have hadd := r5add_any _ 2 2 _ m (m + 1) _ hds (by omega) (by omega) (by omega) (by omega) hvs
  rw [hsum] at hadd
  refine CallsIn.mono (callsIn_wide.2 hadd) ?_
  rintro e w3 ⟨A3, n3, c3, l3, rfl, hi3, hr3, hb3⟩
  have hB3 : Below W0.heap.size W0 w3 := hW3.trans (hb3.mono hW3.size)
  have hq := x2.kept hB3
  obtain ⟨⟨m0, m1⟩, m2, m3⟩ := hq.facts2
  refine hK _ _ (.inr ⟨(x0.kept hB3).facts2.1, (x1.kept hB3).facts2.1⟩) ?_
  clear hK K
  obtain ⟨v3, hv3⟩ : ∃ v3, iv s l - iv s' l' = v3 := ⟨_, rfl⟩
  rw [hv3] at hi3
  simp only [hv3]
  refine oneC (i := 5) (by kernel_rfl) rfl (fun K hK => ?_)
  go_simp
  refine hK _ _ (.inr ⟨((x0.kept hB3).other (p := ⟨w.heap.size + 1 + 1, 0, none⟩) (by simp; omega) _ |>.other (p := ⟨w.heap.size + 1 + 1, 1, none⟩) (by simp; omega) _).facts2.1, ((x1.kept hB3).other (p := ⟨w.heap.size + 1 + 1, 0, none⟩) (by simp) _ |>.other (p := ⟨w.heap.size + 1 + 1, 1, none⟩) (by simp) _).facts2.1⟩) ?_
  clear hK K
  refine doneP (by kernel_rfl) ?_
  obtain ⟨⟨c0, c1⟩, _, _⟩ := ((hq.set 0 (.bool (decide (v3 < 0)))).set 1 (.slice A3 n3 c3)).facts2
  go_wp2
  refine bodyPost_ret (v := .agg #[.bool (decide (v3 < 0)), .slice A3 n3 c3]) (by simp [results, Try.results34, go_sem, c0, c1]) rfl ?_
  rw [hv3]
  exact ret2 hq (hB0.trans (hB3.mono hB0.size)) (by omega) hi3 hr3

set_option maxHeartbeats 1000000 in
theorem r5cmp_any (s : Bool) (A : Option Addr) (n c : Nat) (l : List Nat) (s' : Bool) (A' : Option Addr) (n' c' : Nat) (l' : List Nat) (w : World) (h : Rd w A n c l) (ht : Lt l) (h' : Rd w A' n' c' l') (ht' : Lt l') (m : Nat) (hl : n ≤ m) (hl' : n' ≤ m) (hm : m ≤ 90000) :
    Calls Try.prog 30 #[.agg #[.bool s, .slice A n c], .agg #[.bool s', .slice A' n' c']] w fun e w' => e = .returned (.int .i64 (iv s l - iv s' l').sign) ∧ Below w.heap.size w w' := by
  have hb1 := ((Below.refl _ w).alloc (Nat.le_refl _) (.cells #[.bool s, .slice A n c] 25)).alloc (by simp) (.cells #[.bool s', .slice A' n' c'] 25)
  have hsub := r5sub_any s A n c l s' A' n' c' l' _ (h.below hb1) ht (h'.below hb1) ht' m hl hl' hm
  obtain ⟨v3, hv3⟩ : ∃ v3, iv s l - iv s' l' = v3 := ⟨_, rfl⟩
  have hbd : v3.natAbs < BB ^ (m + 1) := by
    have e1 := iv_bound (s := s) ht h.len hl; have e2 := iv_bound (s := s') ht' h'.len hl'
    rw [Nat.pow_succ]
    unfold BB at *
    omega
  rw [hv3] at hsub
  rw [hv3]
  go_enter Try.func30, Try.ntmps30
  go_wp2_with (first | (go_at_call 34; refine hsub.mono ?_; rintro e w2 ⟨A2, n2, c2, l2, rfl, hi2, hr2, hb2⟩) | (go_at_call 11; refine (r5sign_any _ A2 n2 c2 l2 _ hr2 hi2.lt (by rw [← hr2.len]; exact Nat.le_trans (hi2.len hbd) (by omega))).mono ?_; rintro e w3 ⟨rfl, hb3⟩))
  go_ret
  have hb4 := hb1.trans (hb2.mono hb1.size)
  exact ⟨by rw [iv_norm hi2]; rfl, hb4.trans (hb3.mono hb4.size)⟩

set_option maxHeartbeats 1000000 in
theorem r5same_any (s : Bool) (A : Option Addr) (n c : Nat) (l : List Nat) (s' : Bool) (A' : Option Addr) (n' c' : Nat) (l' : List Nat) (w : World) (h : Rd w A n c l) (ht : Lt l) (h' : Rd w A' n' c' l') (ht' : Lt l') (m : Nat) (hl : n ≤ m) (hl' : n' ≤ m) (hm : m ≤ 90000) :
    Calls Try.prog 31 #[.agg #[.bool s, .slice A n c], .agg #[.bool s', .slice A' n' c']] w fun e w' => e = .returned (.bool ((iv s l - iv s' l').sign == 0)) ∧ Below w.heap.size w w' := by
  have hb1 := ((Below.refl _ w).alloc (Nat.le_refl _) (.cells #[.bool s, .slice A n c] 25)).alloc (by simp) (.cells #[.bool s', .slice A' n' c'] 25)
  have hcmp := r5cmp_any s A n c l s' A' n' c' l' _ (h.below hb1) ht (h'.below hb1) ht' m hl hl' hm
  obtain ⟨v3, hv3⟩ : ∃ v3, (iv s l - iv s' l').sign = v3 := ⟨_, rfl⟩
  rw [hv3] at hcmp
  rw [hv3]
  go_enter Try.func31, Try.ntmps31
  go_wp2_with (go_at_call 30; refine hcmp.mono ?_; rintro e w2 ⟨rfl, hb2⟩)
  go_ret
  exact ⟨rfl, hb1.trans (hb2.mono hb1.size)⟩
end Go.Proofs.Wd

namespace Go.Proofs.Wd
open Go.RowKit Lb

set_option maxHeartbeats 1000000 in
theorem r5small_any (s : Bool) (A : Option Addr) (n c : Nat) (l : List Nat) (w : World) (v : Int) (h : Rd w A n c l) (ht : Lt l) (hl : n ≤ 1099511627776) (hv : iv s l = v) :
    Calls Try.prog 28 #[.agg #[.bool s, .slice A n c]] w fun e w' => e = .returned (.tuple #[.int .i64 (smI v), .bool (okI v)]) ∧ Below w.heap.size w w' := by
  have hb0 := (Below.refl _ w).alloc (Nat.le_refl _) (.cells #[.bool s, .slice A n c] 25)
  have hof := r5norm_any s A n c l _ (h.below hb0) ht hl
  unfold RetInt at hof
  rw [hv] at hof
  have hnn : ∀ {n2 : Nat} {l2 : List Nat}, l2.length = n2 → Is l2 v.natAbs → n2 ≤ n := fun {n2 l2} h1 h2 => by rw [← h1]; exact h2.len (by rw [← hv, iv_abs]; have := val_lt ht; rwa [h.len] at this)
  obtain ⟨k, hk⟩ : ∃ k, v.natAbs = k := ⟨_, rfl⟩
  rcases (by omega : (v = (k : Int) ∧ k < 9223372036854775808) ∨ (v = -(k : Int) ∧ 0 < k ∧ k ≤ 9223372036854775808) ∨ 18446744073709551616 ≤ k ∨ (k < 18446744073709551616 ∧ (9223372036854775808 < k ∨ (k = 9223372036854775808 ∧ 0 < v)))) with ⟨rfl, h1⟩ | ⟨rfl, h1, h2⟩ | h1 | ⟨h1, h2⟩
  · rw [show smI (k : Int) = k from if_pos (okI_true (by omega)), show okI (k : Int) = true from okI_true (by omega)]
    have e1 : smallOf k = k := if_pos (by omega)
    have e2 : isSmall k = true := decide_eq_true (by omega)
    have e3 : decide ((k : Int) < 0) = false := decide_eq_false (by omega)
    have e4 : IntKind.i64.wrap (k : Int) = k := IntWalk.i64_in _ (by omega)
    go_enter Try.func28, Try.ntmps28
    go_wp2_with (first | (go_at_call 16; refine hof.mono ?_; rintro e w1 ⟨A2, n2, c2, l2, rfl, hi2, hr2, hb1⟩; have hq := res2 hb1 (b := w.heap.size) rfl; obtain ⟨⟨q0, q1⟩, q2, q3⟩ := hq.facts2; have hp := (hq.set 0 (.bool (decide ((k : Int) < 0)))).set 1 (.slice A2 n2 c2); have hr3 := (hr2.setN hq (i := 0) rfl (fun _ => by simp) (.bool (decide ((k : Int) < 0)))).setN (hq.set 0 _) (i := 1) rfl (fun _ => by simp) (.slice A2 n2 c2); have hb3 := ((hb0.trans (hb1.mono hb0.size)).setCell (p := ⟨w.heap.size, 0, none⟩) (Nat.le_refl _) (.bool (decide ((k : Int) < 0)))).setCell (p := ⟨w.heap.size, 1, none⟩) (Nat.le_refl _) (.slice A2 n2 c2); have hle2 : n2 ≤ n := hnn hr2.len hi2; rw [e3] at hp hr3 hb3; obtain ⟨⟨p0, p1⟩, p2, p3⟩ := hp.facts2) | fail)
    refine (rsmall_any A2 n2 c2 l2 _ hr3 hi2.lt (Nat.le_trans hle2 hl)).mono ?_
    rw [hi2.val, hk, e1, e2]
    rintro e w2 ⟨rfl, hb2⟩
    have hp2 := hp.kept hb2
    obtain ⟨⟨p4, p5⟩, p6, p7⟩ := hp2.facts2
    go_wp2_with fail
    all_goals
      first | done | (go_ret2; exact ⟨rfl, hb3.trans (hb2.mono hb3.size)⟩) | go_show
  · rw [show smI (-(k : Int)) = -k from if_pos (okI_true (by omega)), show okI (-(k : Int)) = true from okI_true (by omega)]
    have e1 : smallOf k = k := if_pos (by omega)
    have e2 : isSmall k = true := decide_eq_true (by omega)
    have e3 : decide (-(k : Int) < 0) = true := decide_eq_true (by omega)
    rcases (by omega : k = 9223372036854775808 ∨ k < 9223372036854775808) with rfl | h3
    · go_enter Try.func28, Try.ntmps28
      go_wp2_with (first | (go_at_call 16; refine hof.mono ?_; rintro e w1 ⟨A2, n2, c2, l2, rfl, hi2, hr2, hb1⟩; have hq := res2 hb1 (b := w.heap.size) rfl; obtain ⟨⟨q0, q1⟩, q2, q3⟩ := hq.facts2; have hp := (hq.set 0 (.bool (decide ((-((9223372036854775808 : Nat) : Int)) < 0)))).set 1 (.slice A2 n2 c2); have hr3 := (hr2.setN hq (i := 0) rfl (fun _ => by simp) (.bool (decide ((-((9223372036854775808 : Nat) : Int)) < 0)))).setN (hq.set 0 _) (i := 1) rfl (fun _ => by simp) (.slice A2 n2 c2); have hb3 := ((hb0.trans (hb1.mono hb0.size)).setCell (p := ⟨w.heap.size, 0, none⟩) (Nat.le_refl _) (.bool (decide ((-((9223372036854775808 : Nat) : Int)) < 0)))).setCell (p := ⟨w.heap.size, 1, none⟩) (Nat.le_refl _) (.slice A2 n2 c2); have hle2 : n2 ≤ n := hnn hr2.len hi2; rw [e3] at hp hr3 hb3; obtain ⟨⟨p0, p1⟩, p2, p3⟩ := hp.facts2) | fail)
      refine (rsmall_any A2 n2 c2 l2 _ hr3 hi2.lt (Nat.le_trans hle2 hl)).mono ?_
      rw [hi2.val, hk, e1, e2]
      rintro e w2 ⟨rfl, hb2⟩
      have hp2 := hp.kept hb2
      obtain ⟨⟨p4, p5⟩, p6, p7⟩ := hp2.facts2
      go_wp2_with fail
      all_goals
        first | done | (go_ret2; exact ⟨rfl, hb3.trans (hb2.mono hb3.size)⟩) | go_show
    · have e4 : IntKind.i64.wrap (k : Int) = k := IntWalk.i64_in _ (by omega)
      have e5 : IntKind.i64.wrap (-(k : Int)) = -k := IntWalk.i64_in _ (by omega)
      go_enter Try.func28, Try.ntmps28
      go_wp2_with (first | (go_at_call 16; refine hof.mono ?_; rintro e w1 ⟨A2, n2, c2, l2, rfl, hi2, hr2, hb1⟩; have hq := res2 hb1 (b := w.heap.size) rfl; obtain ⟨⟨q0, q1⟩, q2, q3⟩ := hq.facts2; have hp := (hq.set 0 (.bool (decide ((-(k : Int)) < 0)))).set 1 (.slice A2 n2 c2); have hr3 := (hr2.setN hq (i := 0) rfl (fun _ => by simp) (.bool (decide ((-(k : Int)) < 0)))).setN (hq.set 0 _) (i := 1) rfl (fun _ => by simp) (.slice A2 n2 c2); have hb3 := ((hb0.trans (hb1.mono hb0.size)).setCell (p := ⟨w.heap.size, 0, none⟩) (Nat.le_refl _) (.bool (decide ((-(k : Int)) < 0)))).setCell (p := ⟨w.heap.size, 1, none⟩) (Nat.le_refl _) (.slice A2 n2 c2); have hle2 : n2 ≤ n := hnn hr2.len hi2; rw [e3] at hp hr3 hb3; obtain ⟨⟨p0, p1⟩, p2, p3⟩ := hp.facts2) | fail)
      refine (rsmall_any A2 n2 c2 l2 _ hr3 hi2.lt (Nat.le_trans hle2 hl)).mono ?_
      rw [hi2.val, hk, e1, e2]
      rintro e w2 ⟨rfl, hb2⟩
      have hp2 := hp.kept hb2
      obtain ⟨⟨p4, p5⟩, p6, p7⟩ := hp2.facts2
      go_wp2_with fail
      all_goals
        first | done | (go_ret2; exact ⟨rfl, hb3.trans (hb2.mono hb3.size)⟩) | go_show
  · rw [show smI v = 0 from by unfold smI; rw [okI_false (by omega)]; rfl, show okI v = false from okI_false (by omega)]
    have e1 : smallOf k = 0 := if_neg (by omega)
    have e2 : isSmall k = false := decide_eq_false (by omega)
    obtain ⟨sb, e3⟩ : ∃ sb, decide (v < 0) = sb := ⟨_, rfl⟩
    go_enter Try.func28, Try.ntmps28
    go_wp2_with (first | (go_at_call 16; refine hof.mono ?_; rintro e w1 ⟨A2, n2, c2, l2, rfl, hi2, hr2, hb1⟩; have hq := res2 hb1 (b := w.heap.size) rfl; obtain ⟨⟨q0, q1⟩, q2, q3⟩ := hq.facts2; have hp := (hq.set 0 (.bool (decide (v < 0)))).set 1 (.slice A2 n2 c2); have hr3 := (hr2.setN hq (i := 0) rfl (fun _ => by simp) (.bool (decide (v < 0)))).setN (hq.set 0 _) (i := 1) rfl (fun _ => by simp) (.slice A2 n2 c2); have hb3 := ((hb0.trans (hb1.mono hb0.size)).setCell (p := ⟨w.heap.size, 0, none⟩) (Nat.le_refl _) (.bool (decide (v < 0)))).setCell (p := ⟨w.heap.size, 1, none⟩) (Nat.le_refl _) (.slice A2 n2 c2); have hle2 : n2 ≤ n := hnn hr2.len hi2; rw [e3] at hp hr3 hb3; obtain ⟨⟨p0, p1⟩, p2, p3⟩ := hp.facts2) | fail)
    refine (rsmall_any A2 n2 c2 l2 _ hr3 hi2.lt (Nat.le_trans hle2 hl)).mono ?_
    rw [hi2.val, hk, e1, e2]
    rintro e w2 ⟨rfl, hb2⟩
    have hp2 := hp.kept hb2
    obtain ⟨⟨p4, p5⟩, p6, p7⟩ := hp2.facts2
    go_wp2_with fail
    all_goals
      first | done | (go_ret2; exact ⟨rfl, hb3.trans (hb2.mono hb3.size)⟩) | go_show
  · rw [show smI v = 0 from by unfold smI; rw [okI_false (by omega)]; rfl, show okI v = false from okI_false (by omega)]
    have e1 : smallOf k = k := if_pos (by omega)
    have e2 : isSmall k = true := decide_eq_true (by omega)
    rcases h2 with h2 | ⟨rfl, h3⟩
    · obtain ⟨sb, e3⟩ : ∃ sb, decide (v < 0) = sb := ⟨_, rfl⟩
      go_enter Try.func28, Try.ntmps28
      go_wp2_with (first | (go_at_call 16; refine hof.mono ?_; rintro e w1 ⟨A2, n2, c2, l2, rfl, hi2, hr2, hb1⟩; have hq := res2 hb1 (b := w.heap.size) rfl; obtain ⟨⟨q0, q1⟩, q2, q3⟩ := hq.facts2; have hp := (hq.set 0 (.bool (decide (v < 0)))).set 1 (.slice A2 n2 c2); have hr3 := (hr2.setN hq (i := 0) rfl (fun _ => by simp) (.bool (decide (v < 0)))).setN (hq.set 0 _) (i := 1) rfl (fun _ => by simp) (.slice A2 n2 c2); have hb3 := ((hb0.trans (hb1.mono hb0.size)).setCell (p := ⟨w.heap.size, 0, none⟩) (Nat.le_refl _) (.bool (decide (v < 0)))).setCell (p := ⟨w.heap.size, 1, none⟩) (Nat.le_refl _) (.slice A2 n2 c2); have hle2 : n2 ≤ n := hnn hr2.len hi2; rw [e3] at hp hr3 hb3; obtain ⟨⟨p0, p1⟩, p2, p3⟩ := hp.facts2) | fail)
      refine (rsmall_any A2 n2 c2 l2 _ hr3 hi2.lt (Nat.le_trans hle2 hl)).mono ?_
      rw [hi2.val, hk, e1, e2]
      rintro e w2 ⟨rfl, hb2⟩
      have hp2 := hp.kept hb2
      obtain ⟨⟨p4, p5⟩, p6, p7⟩ := hp2.facts2
      go_wp2_with fail
      all_goals
        first | done | (go_ret2; exact ⟨rfl, hb3.trans (hb2.mono hb3.size)⟩) | go_show
    · have e3 : decide (v < 0) = false := decide_eq_false (by omega)
      go_enter Try.func28, Try.ntmps28
      go_wp2_with (first | (go_at_call 16; refine hof.mono ?_; rintro e w1 ⟨A2, n2, c2, l2, rfl, hi2, hr2, hb1⟩; have hq := res2 hb1 (b := w.heap.size) rfl; obtain ⟨⟨q0, q1⟩, q2, q3⟩ := hq.facts2; have hp := (hq.set 0 (.bool (decide (v < 0)))).set 1 (.slice A2 n2 c2); have hr3 := (hr2.setN hq (i := 0) rfl (fun _ => by simp) (.bool (decide (v < 0)))).setN (hq.set 0 _) (i := 1) rfl (fun _ => by simp) (.slice A2 n2 c2); have hb3 := ((hb0.trans (hb1.mono hb0.size)).setCell (p := ⟨w.heap.size, 0, none⟩) (Nat.le_refl _) (.bool (decide (v < 0)))).setCell (p := ⟨w.heap.size, 1, none⟩) (Nat.le_refl _) (.slice A2 n2 c2); have hle2 : n2 ≤ n := hnn hr2.len hi2; rw [e3] at hp hr3 hb3; obtain ⟨⟨p0, p1⟩, p2, p3⟩ := hp.facts2) | fail)
      refine (rsmall_any A2 n2 c2 l2 _ hr3 hi2.lt (Nat.le_trans hle2 hl)).mono ?_
      rw [hi2.val, hk, e1, e2]
      rintro e w2 ⟨rfl, hb2⟩
      have hp2 := hp.kept hb2
      obtain ⟨⟨p4, p5⟩, p6, p7⟩ := hp2.facts2
      go_wp2_with fail
      all_goals
        first | done | (go_ret2; exact ⟨rfl, hb3.trans (hb2.mono hb3.size)⟩) | go_show
end Go.Proofs.Wd

namespace Go.Proofs.Wd
open Go.RowKit Lb
attribute [local go_sem] Oper.semAt_some wide_fn wide_depth

/-- Two results' boxes, filled. -/
def put22 (W : World) (b b' : Nat) (x y x' y' : Value) : World := (((W.setCell ⟨b, 0, none⟩ x).setCell ⟨b, 1, none⟩ y).setCell ⟨b', 0, none⟩ x').setCell ⟨b', 1, none⟩ y'
theorem put22_box {W : World} {b b' : Nat} {t t' : TypeId} {u z u' z' : Value} (h : BoxN W b t #[u, z]) (h' : BoxN W b' t' #[u', z']) (hne : b ≠ b') (x y x' y' : Value) :
    BoxN (put22 W b b' x y x' y') b t #[x, y] ∧ BoxN (put22 W b b' x y x' y') b' t' #[x', y'] :=
  ⟨(((h.set 0 x).set 1 y).other (p := ⟨b', 0, none⟩) hne x').other (p := ⟨b', 1, none⟩) hne y', (((h'.other (p := ⟨b, 0, none⟩) hne.symm x).other (p := ⟨b, 1, none⟩) hne.symm y).set 0 x').set 1 y'⟩
theorem put22_rd {W : World} {b b' : Nat} {t t' : TypeId} {s s' : Bool} {A0 A0' : Option Addr} {n0 c0 n0' c0' : Nat} (h : BoxN W b t #[.bool s, .slice A0 n0 c0]) (h' : BoxN W b' t' #[.bool s', .slice A0' n0' c0']) (hne : b ≠ b') (x y x' y' : Value)
    {A : Option Addr} {n c : Nat} {l : List Nat} (hr : Rd W A n c l) : Rd (put22 W b b' x y x' y') A n c l := by
  have h1 := h.set 0 x
  have h2 := h1.set 1 y
  have g2 := (h'.other (p := ⟨b, 0, none⟩) hne.symm x).other (p := ⟨b, 1, none⟩) hne.symm y
  have g3 := g2.set 0 x'
  exact (((hr.setN h (i := 0) rfl (fun _ => by simp) x).setN h1 (i := 1) rfl (fun _ => by simp) y).setN g2 (i := 0) rfl (fun _ => by simp) x').setN g3 (i := 1) rfl (fun _ => by simp) y'
theorem put22_below {w W : World} {B b b' : Nat} (h : Below B w W) (hb : B ≤ b) (hb' : B ≤ b') (x y x' y' : Value) : Below B w (put22 W b b' x y x' y') :=
  (((h.setCell (p := ⟨b, 0, none⟩) hb x).setCell (p := ⟨b, 1, none⟩) hb y).setCell (p := ⟨b', 0, none⟩) hb' x').setCell (p := ⟨b', 1, none⟩) hb' y'

/-- What sint.Div returns. -/
def RetIDiv (w : World) (v v' : Int) : Ending → World → Prop := fun e w' => ∃ q r A1 n1 c1 l1 A2 n2 c2 l2, e = .returned (.tuple #[.agg #[.bool (decide (q < 0)), .slice A1 n1 c1], .agg #[.bool (decide (r < 0)), .slice A2 n2 c2], .int .i64 0]) ∧ v = q * v' + r ∧ FloorRest r v' ∧
  Is l1 q.natAbs ∧ Rd w' A1 n1 c1 l1 ∧ Is l2 r.natAbs ∧ Rd w' A2 n2 c2 l2 ∧ Below w.heap.size w w'

set_option maxRecDepth 100000 in
set_option maxHeartbeats 2000000 in
theorem sdiv_zero (s : Bool) (A : Option Addr) (n c : Nat) (l : List Nat) (s' : Bool) (A' : Option Addr) (n' c' : Nat) (l' : List Nat) (w : World) (v v' : Int) (h : Rd w A n c l) (ht : Lt l) (h' : Rd w A' n' c' l') (ht' : Lt l') (m : Nat) (hl : n ≤ m) (hl' : n' ≤ m) (hm : m ≤ 1000) (hv : iv s l = v) (hv' : iv s' l' = v') (hz : v' = 0) :
    Calls Try.prog 10 #[.agg #[.bool s, .slice A n c], .agg #[.bool s', .slice A' n' c']] w fun e w' => e = .returned (.tuple #[.agg #[.bool false, .slice none 0 0], .agg #[.bool false, .slice none 0 0], .int .i64 30]) ∧ Below w.heap.size w w' := by
  have hmix : Try.prog.follows .mixedOrders = true := by kernel_rfl
  go_enter Try.func10, Try.ntmps10
  go_wp2
  refine (wpIn_wide (n := 0)).1 ?_
  obtain ⟨W0, hW0⟩ : ∃ W0, ((((w.alloc (.cells #[.bool s, .slice A n c] 25)).alloc (.cells #[.bool s', .slice A' n' c'] 25)).alloc (.cells #[.bool false, .slice none 0 0] 25)).alloc (.cells #[.bool false, .slice none 0 0] 25)) = W0 := ⟨_, rfl⟩
  have x0 : BoxN W0 w.heap.size 25 #[.bool s, .slice A n c] := by rw [← hW0]; exact (((BoxN.new w _ _).alloc _).alloc _).alloc _
  have x1 : BoxN W0 (w.heap.size + 1) 25 #[.bool s', .slice A' n' c'] := by rw [← hW0]; exact ((BoxN.at_ _ _ _ (by simp)).alloc _).alloc _
  have x2 : BoxN W0 (w.heap.size + 1 + 1) 25 #[.bool false, .slice none 0 0] := by rw [← hW0]; exact (BoxN.at_ _ _ _ (by simp)).alloc _
  have x3 : BoxN W0 (w.heap.size + 1 + 1 + 1) 25 #[.bool false, .slice none 0 0] := by rw [← hW0]; exact BoxN.at_ _ _ _ (by simp)
  have hB0 : Below w.heap.size w W0 := by rw [← hW0]; exact ((((Below.refl _ w).alloc (Nat.le_refl _) _).alloc (by simp) _).alloc (by simp; omega) _).alloc (by simp; omega) _
  rw [hW0]
  clear hW0
  refine wpIn_region_C 100 (fun W => (W.cell? ⟨w.heap.size, 0, none⟩ = some (.bool s) ∧ W.cell? ⟨w.heap.size, 1, none⟩ = some (.slice A n c)) ∧ W.cell? ⟨w.heap.size + 1, 0, none⟩ = some (.bool s') ∧ W.cell? ⟨w.heap.size + 1, 1, none⟩ = some (.slice A' n' c')) hmix ?_
  have d1 := And.intro x0.facts2.1 x1.facts2.1
  refine takeC (i := 0) (v := ?vv1) (by kernel_rfl) (by kernel_rfl) rfl (by kernel_rfl) (by kernel_rfl) (by kernel_rfl) (fun _ _ _ h => h) d1 ⟨.inl ⟨rfl, ?yy1⟩, fun _ => rfl⟩ ?_
  case yy1 =>
    rintro wx ⟨⟨q1, q2⟩, q3, q4⟩
    go_simp
    first | done | rfl
  refine takeC (i := 2) (v := ?vv2) (by kernel_rfl) (by kernel_rfl) rfl (by kernel_rfl) (by kernel_rfl) (by kernel_rfl) (fun _ _ _ h => h) d1 ⟨.inl ⟨rfl, ?yy2⟩, fun _ => rfl⟩ ?_
  case yy2 =>
    rintro wx ⟨⟨q1, q2⟩, q3, q4⟩
    go_simp
    first | done | rfl
  have hof1 := sof_any s A n c l _ ((h.below hB0).drew) ht (by omega)
  rw [hv] at hof1
  refine oneC (i := 1) (by kernel_rfl) rfl (fun K hK => ?_)
  go_simp
  refine CallsIn.mono (callsIn_wide.2 hof1) ?_
  rintro e w1 ⟨Bx, rfl, hBx, hnx, hb1⟩
  have hB1 : Below W0.heap.size W0 w1 := ((Below.refl _ W0).drew).trans hb1
  refine hK _ _ (.inr ⟨(x0.kept hB1).facts2.1, (x1.kept hB1).facts2.1⟩) ?_
  clear hK K
  have hof2 := sof_any s' A' n' c' l' _ (h'.below (hB0.trans (hB1.mono hB0.size))) ht' (by omega)
  rw [hv'] at hof2
  refine oneC (i := 3) (by kernel_rfl) rfl (fun K hK => ?_)
  go_simp
  refine CallsIn.mono (callsIn_wide.2 hof2) ?_
  rintro e w2 ⟨By, rfl, hBy, hny, hb2⟩
  have hB2 : Below W0.heap.size W0 w2 := hB1.trans (hb2.mono hB1.size)
  have d2 := And.intro (x0.kept hB2).facts2.1 (x1.kept hB2).facts2.1
  refine hK _ _ (.inr d2) ?_
  clear hK K
  refine takeC (i := 4) (v := ?vv3) (by kernel_rfl) (by kernel_rfl) rfl (by kernel_rfl) (by kernel_rfl) (by kernel_rfl) (fun _ _ _ h => h) d2 ⟨.inl ⟨rfl, ?yy3⟩, fun _ => rfl⟩ ?_
  case yy3 =>
    rintro wx ⟨⟨q1, q2⟩, q3, q4⟩
    go_simp
    first | done | rfl
  refine takeC (i := 5) (v := ?vv4) (by kernel_rfl) (by kernel_rfl) rfl (by kernel_rfl) (by kernel_rfl) (by kernel_rfl) (fun _ _ _ h => h) d2 ⟨.inl ⟨rfl, ?yy4⟩, fun _ => rfl⟩ ?_
  case yy4 =>
    rintro wx ⟨⟨q1, q2⟩, q3, q4⟩
    go_simp
    first | done | rfl
  refine doneP (by kernel_rfl) ?_
  obtain ⟨Ax, nx, cx, lx, hbx, hix, hrx⟩ := hnx.kept hb2
  obtain ⟨Ay, ny, cy, ly, hby, hiy, hry⟩ := hny
  obtain ⟨⟨g0, g1⟩, g2, g3⟩ := hbx.facts2
  obtain ⟨⟨k0, k1⟩, k2, k3⟩ := hby.facts2
  have hnx2 : nx ≤ m := by rw [← hrx.len]; refine hix.len ?_; rw [← hv]; exact iv_bound ht h.len hl
  have hny2 : ny ≤ m := by rw [← hry.len]; refine hiy.len ?_; rw [← hv']; exact iv_bound ht' h'.len hl'
  go_wp2
  refine (wpIn_wide (n := 0)).1 ?_
  refine wpIn_region_C 100 (fun W => (W.cell? ⟨Bx, 0, none⟩ = some (.bool (decide (v < 0))) ∧ W.cell? ⟨Bx, 1, none⟩ = some (.slice Ax nx cx)) ∧ W.cell? ⟨By, 0, none⟩ = some (.bool (decide (v' < 0))) ∧ W.cell? ⟨By, 1, none⟩ = some (.slice Ay ny cy)) hmix ?_
  have d3 := And.intro hbx.facts2.1 hby.facts2.1
  refine takeC (i := 0) (v := ?vv5) (by kernel_rfl) (by kernel_rfl) rfl (by kernel_rfl) (by kernel_rfl) (by kernel_rfl) (fun _ _ _ h => h) d3 ⟨.inl ⟨rfl, ?yy5⟩, fun _ => rfl⟩ ?_
  case yy5 =>
    rintro wx ⟨⟨q1, q2⟩, q3, q4⟩
    go_simp
    first | done | rfl
  refine takeC (i := 1) (v := ?vv6) (by kernel_rfl) (by kernel_rfl) rfl (by kernel_rfl) (by kernel_rfl) (by kernel_rfl) (fun _ _ _ h => h) d3 ⟨.inl ⟨rfl, ?yy6⟩, fun _ => rfl⟩ ?_
  case yy6 =>
    rintro wx ⟨⟨q1, q2⟩, q3, q4⟩
    go_simp
    first | done | rfl
  refine takeC (i := 2) (v := ?vv7) (by kernel_rfl) (by kernel_rfl) rfl (by kernel_rfl) (by kernel_rfl) (by kernel_rfl) (fun _ _ _ h => h) d3 ⟨.inl ⟨rfl, ?yy7⟩, fun _ => rfl⟩ ?_
  case yy7 =>
    rintro wx ⟨⟨q1, q2⟩, q3, q4⟩
    go_simp
    first | done | rfl
  refine takeC (i := 3) (v := ?vv8) (by kernel_rfl) (by kernel_rfl) rfl (by kernel_rfl) (by kernel_rfl) (by kernel_rfl) (fun _ _ _ h => h) d3 ⟨.inl ⟨rfl, ?yy8⟩, fun _ => rfl⟩ ?_
  case yy8 =>
    rintro wx ⟨⟨q1, q2⟩, q3, q4⟩
    go_simp
    first | done | rfl
  refine takeC (i := 4) (v := ?vv9) (by kernel_rfl) (by kernel_rfl) rfl (by kernel_rfl) (by kernel_rfl) (by kernel_rfl) (fun _ _ _ h => h) d3 ⟨.inl ⟨rfl, ?yy9⟩, fun _ => rfl⟩ ?_
  case yy9 =>
    rintro wx ⟨⟨q1, q2⟩, q3, q4⟩
    go_simp
    first | done | rfl
  refine takeC (i := 5) (v := ?vv10) (by kernel_rfl) (by kernel_rfl) rfl (by kernel_rfl) (by kernel_rfl) (by kernel_rfl) (fun _ _ _ h => h) d3 ⟨.inl ⟨rfl, ?yy10⟩, fun _ => rfl⟩ ?_
  case yy10 =>
    rintro wx ⟨⟨q1, q2⟩, q3, q4⟩
    go_simp
    first | done | rfl
  refine takeC (i := 6) (v := ?vv11) (by kernel_rfl) (by kernel_rfl) rfl (by kernel_rfl) (by kernel_rfl) (by kernel_rfl) (fun _ _ _ h => h) d3 ⟨.inl ⟨rfl, ?yy11⟩, fun _ => rfl⟩ ?_
  case yy11 =>
    rintro wx ⟨⟨q1, q2⟩, q3, q4⟩
    go_simp
    first | done | rfl
  refine takeC (i := 7) (v := ?vv12) (by kernel_rfl) (by kernel_rfl) rfl (by kernel_rfl) (by kernel_rfl) (by kernel_rfl) (fun _ _ _ h => h) d3 ⟨.inl ⟨rfl, ?yy12⟩, fun _ => rfl⟩ ?_
  case yy12 =>
    rintro wx ⟨⟨q1, q2⟩, q3, q4⟩
    go_simp
    first | done | rfl
  refine takeC (i := 8) (v := ?vv13) (by kernel_rfl) (by kernel_rfl) rfl (by kernel_rfl) (by kernel_rfl) (by kernel_rfl) (fun _ _ _ h => h) d3 ⟨.inl ⟨rfl, ?yy13⟩, fun _ => rfl⟩ ?_
  case yy13 =>
    rintro wx ⟨⟨q1, q2⟩, q3, q4⟩
    go_simp
    first | done | rfl
  refine takeC (i := 9) (v := ?vv14) (by kernel_rfl) (by kernel_rfl) rfl (by kernel_rfl) (by kernel_rfl) (by kernel_rfl) (fun _ _ _ h => h) d3 ⟨.inl ⟨rfl, ?yy14⟩, fun _ => rfl⟩ ?_
  case yy14 =>
    rintro wx ⟨⟨q1, q2⟩, q3, q4⟩
    go_simp
    first | done | rfl
  have hval0 : val ly = 0 := by rw [hiy.val, hz]; rfl
  refine oneC (i := 10) (by kernel_rfl) rfl (fun K hK => ?_)
  go_simp
  refine CallsIn.mono (callsIn_wide.2 (qdiv_zero Ax nx cx lx Ay ny cy ly _ hrx.drew hix.lt hry.drew hiy.lt (by omega) (by omega) hval0)) ?_
  rintro e w3 ⟨rfl, hb3⟩
  have hB3 : Below w2.heap.size w2 w3 := ((Below.refl _ w2).drew).trans hb3
  have d4 := And.intro (hbx.kept hB3).facts2.1 (hby.kept hB3).facts2.1
  refine hK _ _ (.inr d4) ?_
  clear hK K
  refine oneC (i := 11) (by kernel_rfl) rfl (fun K hK => ?_)
  go_simp
  refine hK _ _ (.inr d4) ?_
  clear hK K
  refine takeC (i := 12) (v := ?vv15) (by kernel_rfl) (by kernel_rfl) rfl (by kernel_rfl) (by kernel_rfl) (by kernel_rfl) (fun _ _ _ h => h) d4 ⟨.inl ⟨rfl, ?yy15⟩, fun _ => rfl⟩ ?_
  case yy15 =>
    rintro wx ⟨⟨q1, q2⟩, q3, q4⟩
    go_simp
    first | done | rfl
  refine takeC (i := 13) (v := ?vv16) (by kernel_rfl) (by kernel_rfl) rfl (by kernel_rfl) (by kernel_rfl) (by kernel_rfl) (fun _ _ _ h => h) d4 ⟨.inl ⟨rfl, ?yy16⟩, fun _ => rfl⟩ ?_
  case yy16 =>
    rintro wx ⟨⟨q1, q2⟩, q3, q4⟩
    go_simp
    first | done | rfl
  refine takeC (i := 14) (v := ?vv17) (by kernel_rfl) (by kernel_rfl) rfl (by kernel_rfl) (by kernel_rfl) (by kernel_rfl) (fun _ _ _ h => h) d4 ⟨.inl ⟨rfl, ?yy17⟩, fun _ => rfl⟩ ?_
  case yy17 =>
    rintro wx ⟨⟨q1, q2⟩, q3, q4⟩
    go_simp
    first | done | rfl
  refine takeC (i := 15) (v := ?vv18) (by kernel_rfl) (by kernel_rfl) rfl (by kernel_rfl) (by kernel_rfl) (by kernel_rfl) (fun _ _ _ h => h) d4 ⟨.inl ⟨rfl, ?yy18⟩, fun _ => rfl⟩ ?_
  case yy18 =>
    rintro wx ⟨⟨q1, q2⟩, q3, q4⟩
    go_simp
    first | done | rfl
  refine takeC (i := 16) (v := ?vv19) (by kernel_rfl) (by kernel_rfl) rfl (by kernel_rfl) (by kernel_rfl) (by kernel_rfl) (fun _ _ _ h => h) d4 ⟨.inl ⟨rfl, ?yy19⟩, fun _ => rfl⟩ ?_
  case yy19 =>
    rintro wx ⟨⟨q1, q2⟩, q3, q4⟩
    go_simp
    first | done | rfl
  refine takeC (i := 17) (v := ?vv20) (by kernel_rfl) (by kernel_rfl) rfl (by kernel_rfl) (by kernel_rfl) (by kernel_rfl) (fun _ _ _ h => h) d4 ⟨.inl ⟨rfl, ?yy20⟩, fun _ => rfl⟩ ?_
  case yy20 =>
    rintro wx ⟨⟨q1, q2⟩, q3, q4⟩
    go_simp
    first | done | rfl
  refine doneP (by kernel_rfl) ?_
  have hB4 := hB2.trans (hB3.mono hB2.size)
  have hx2 := x2.kept hB4; have hx3 := x3.kept hB4
  obtain ⟨⟨m0, m1⟩, m2, m3⟩ := hx2.facts2
  obtain ⟨⟨p0, p1⟩, p2, p3⟩ := hx3.facts2
  go_wp2_with (first | go_region | fail)
  all_goals
    obtain ⟨y2, y3⟩ := put22_box hx2 hx3 (by omega) (.bool false) (.slice none 0 0) (.bool false) (.slice none 0 0)
    obtain ⟨⟨m0, m1⟩, _, _⟩ := y2.drew.facts2
    obtain ⟨⟨p0, p1⟩, _, _⟩ := y3.drew.facts2
    unfold put22 at m0 m1 p0 p1
    refine bodyPost_ret (v := .tuple #[.agg #[.bool false, .slice none 0 0], .agg #[.bool false, .slice none 0 0], .int .i64 30]) (by simp [results, Try.results10, go_sem, m0, m1, p0, p1]) rfl ?_
    refine ⟨rfl, ?_⟩
    have := (put22_below (hB0.trans (hB4.mono hB0.size)) (b := w.heap.size + 1 + 1) (b' := w.heap.size + 1 + 1 + 1) (by omega) (by omega) (.bool false) (.slice none 0 0) (.bool false) (.slice none 0 0)).drew
    exact this

theorem decide_eq_of_both {v v' : Int} (h : decide (v < 0) = decide (v' < 0)) : (decide (v < 0) == decide (v' < 0)) = true := by rw [h]; cases decide (v' < 0) <;> rfl
theorem decide_bne_of_both {v v' : Int} (h : decide (v < 0) = decide (v' < 0)) : (decide (v < 0) != decide (v' < 0)) = false := by rw [h]; cases decide (v' < 0) <;> rfl
theorem decide_bne_of_not {v v' : Int} (h : (decide (v < 0) == decide (v' < 0)) = false) : (decide (v < 0) != decide (v' < 0)) = true := by rw [bne, h]; rfl

set_option maxRecDepth 100000 in
set_option maxHeartbeats 4000000 in
theorem sdiv_any (s : Bool) (A : Option Addr) (n c : Nat) (l : List Nat) (s' : Bool) (A' : Option Addr) (n' c' : Nat) (l' : List Nat) (w : World) (v v' : Int) (h : Rd w A n c l) (ht : Lt l) (h' : Rd w A' n' c' l') (ht' : Lt l') (m : Nat) (hl : n ≤ m) (hl' : n' ≤ m) (hm : m ≤ 1000) (hv : iv s l = v) (hv' : iv s' l' = v') (hz : v' ≠ 0) (hqd : QDiv v.natAbs v'.natAbs) :
    Calls Try.prog 10 #[.agg #[.bool s, .slice A n c], .agg #[.bool s', .slice A' n' c']] w (RetIDiv w v v') := by
  have hmix : Try.prog.follows .mixedOrders = true := by kernel_rfl
  go_enter Try.func10, Try.ntmps10
  go_wp2
  refine (wpIn_wide (n := 0)).1 ?_
  obtain ⟨W0, hW0⟩ : ∃ W0, ((((w.alloc (.cells #[.bool s, .slice A n c] 25)).alloc (.cells #[.bool s', .slice A' n' c'] 25)).alloc (.cells #[.bool false, .slice none 0 0] 25)).alloc (.cells #[.bool false, .slice none 0 0] 25)) = W0 := ⟨_, rfl⟩
  have x0 : BoxN W0 w.heap.size 25 #[.bool s, .slice A n c] := by rw [← hW0]; exact (((BoxN.new w _ _).alloc _).alloc _).alloc _
  have x1 : BoxN W0 (w.heap.size + 1) 25 #[.bool s', .slice A' n' c'] := by rw [← hW0]; exact ((BoxN.at_ _ _ _ (by simp)).alloc _).alloc _
  have x2 : BoxN W0 (w.heap.size + 1 + 1) 25 #[.bool false, .slice none 0 0] := by rw [← hW0]; exact (BoxN.at_ _ _ _ (by simp)).alloc _
  have x3 : BoxN W0 (w.heap.size + 1 + 1 + 1) 25 #[.bool false, .slice none 0 0] := by rw [← hW0]; exact BoxN.at_ _ _ _ (by simp)
  have hB0 : Below w.heap.size w W0 := by rw [← hW0]; exact ((((Below.refl _ w).alloc (Nat.le_refl _) _).alloc (by simp) _).alloc (by simp; omega) _).alloc (by simp; omega) _
  rw [hW0]
  clear hW0
  refine wpIn_region_C 100 (fun W => (W.cell? ⟨w.heap.size, 0, none⟩ = some (.bool s) ∧ W.cell? ⟨w.heap.size, 1, none⟩ = some (.slice A n c)) ∧ W.cell? ⟨w.heap.size + 1, 0, none⟩ = some (.bool s') ∧ W.cell? ⟨w.heap.size + 1, 1, none⟩ = some (.slice A' n' c')) hmix ?_
  have d1 := And.intro x0.facts2.1 x1.facts2.1
  refine takeC (i := 0) (v := ?vv21) (by kernel_rfl) (by kernel_rfl) rfl (by kernel_rfl) (by kernel_rfl) (by kernel_rfl) (fun _ _ _ h => h) d1 ⟨.inl ⟨rfl, ?yy21⟩, fun _ => rfl⟩ ?_
  case yy21 =>
    rintro wx ⟨⟨q1, q2⟩, q3, q4⟩
    go_simp
    first | done | rfl
  refine takeC (i := 2) (v := ?vv22) (by kernel_rfl) (by kernel_rfl) rfl (by kernel_rfl) (by kernel_rfl) (by kernel_rfl) (fun _ _ _ h => h) d1 ⟨.inl ⟨rfl, ?yy22⟩, fun _ => rfl⟩ ?_
  case yy22 =>
    rintro wx ⟨⟨q1, q2⟩, q3, q4⟩
    go_simp
    first | done | rfl
  have hof1 := sof_any s A n c l _ ((h.below hB0).drew) ht (by omega)
  rw [hv] at hof1
  refine oneC (i := 1) (by kernel_rfl) rfl (fun K hK => ?_)
  go_simp
  refine CallsIn.mono (callsIn_wide.2 hof1) ?_
  rintro e w1 ⟨Bx, rfl, hBx, hnx, hb1⟩
  have hB1 : Below W0.heap.size W0 w1 := ((Below.refl _ W0).drew).trans hb1
  refine hK _ _ (.inr ⟨(x0.kept hB1).facts2.1, (x1.kept hB1).facts2.1⟩) ?_
  clear hK K
  have hof2 := sof_any s' A' n' c' l' _ (h'.below (hB0.trans (hB1.mono hB0.size))) ht' (by omega)
  rw [hv'] at hof2
  refine oneC (i := 3) (by kernel_rfl) rfl (fun K hK => ?_)
  go_simp
  refine CallsIn.mono (callsIn_wide.2 hof2) ?_
  rintro e w2 ⟨By, rfl, hBy, hny, hb2⟩
  have hB2 : Below W0.heap.size W0 w2 := hB1.trans (hb2.mono hB1.size)
  have d2 := And.intro (x0.kept hB2).facts2.1 (x1.kept hB2).facts2.1
  refine hK _ _ (.inr d2) ?_
  clear hK K
  refine takeC (i := 4) (v := ?vv23) (by kernel_rfl) (by kernel_rfl) rfl (by kernel_rfl) (by kernel_rfl) (by kernel_rfl) (fun _ _ _ h => h) d2 ⟨.inl ⟨rfl, ?yy23⟩, fun _ => rfl⟩ ?_
  case yy23 =>
    rintro wx ⟨⟨q1, q2⟩, q3, q4⟩
    go_simp
    first | done | rfl
  refine takeC (i := 5) (v := ?vv24) (by kernel_rfl) (by kernel_rfl) rfl (by kernel_rfl) (by kernel_rfl) (by kernel_rfl) (fun _ _ _ h => h) d2 ⟨.inl ⟨rfl, ?yy24⟩, fun _ => rfl⟩ ?_
  case yy24 =>
    rintro wx ⟨⟨q1, q2⟩, q3, q4⟩
    go_simp
    first | done | rfl
  refine doneP (by kernel_rfl) ?_
  obtain ⟨Ax, nx, cx, lx, hbx, hix, hrx⟩ := hnx.kept hb2
  obtain ⟨Ay, ny, cy, ly, hby, hiy, hry⟩ := hny
  obtain ⟨⟨g0, g1⟩, g2, g3⟩ := hbx.facts2
  obtain ⟨⟨k0, k1⟩, k2, k3⟩ := hby.facts2
  have hnx2 : nx ≤ m := by rw [← hrx.len]; refine hix.len ?_; rw [← hv]; exact iv_bound ht h.len hl
  have hny2 : ny ≤ m := by rw [← hry.len]; refine hiy.len ?_; rw [← hv']; exact iv_bound ht' h'.len hl'
  go_wp2
  refine (wpIn_wide (n := 0)).1 ?_
  refine wpIn_region_C 100 (fun W => (W.cell? ⟨Bx, 0, none⟩ = some (.bool (decide (v < 0))) ∧ W.cell? ⟨Bx, 1, none⟩ = some (.slice Ax nx cx)) ∧ W.cell? ⟨By, 0, none⟩ = some (.bool (decide (v' < 0))) ∧ W.cell? ⟨By, 1, none⟩ = some (.slice Ay ny cy)) hmix ?_
  have d3 := And.intro hbx.facts2.1 hby.facts2.1
  refine takeC (i := 0) (v := ?vv25) (by kernel_rfl) (by kernel_rfl) rfl (by kernel_rfl) (by kernel_rfl) (by kernel_rfl) (fun _ _ _ h => h) d3 ⟨.inl ⟨rfl, ?yy25⟩, fun _ => rfl⟩ ?_
  case yy25 =>
    rintro wx ⟨⟨q1, q2⟩, q3, q4⟩
    go_simp
    first | done | rfl
  refine takeC (i := 1) (v := ?vv26) (by kernel_rfl) (by kernel_rfl) rfl (by kernel_rfl) (by kernel_rfl) (by kernel_rfl) (fun _ _ _ h => h) d3 ⟨.inl ⟨rfl, ?yy26⟩, fun _ => rfl⟩ ?_
  case yy26 =>
    rintro wx ⟨⟨q1, q2⟩, q3, q4⟩
    go_simp
    first | done | rfl
  refine takeC (i := 2) (v := ?vv27) (by kernel_rfl) (by kernel_rfl) rfl (by kernel_rfl) (by kernel_rfl) (by kernel_rfl) (fun _ _ _ h => h) d3 ⟨.inl ⟨rfl, ?yy27⟩, fun _ => rfl⟩ ?_
  case yy27 =>
    rintro wx ⟨⟨q1, q2⟩, q3, q4⟩
    go_simp
    first | done | rfl
  refine takeC (i := 3) (v := ?vv28) (by kernel_rfl) (by kernel_rfl) rfl (by kernel_rfl) (by kernel_rfl) (by kernel_rfl) (fun _ _ _ h => h) d3 ⟨.inl ⟨rfl, ?yy28⟩, fun _ => rfl⟩ ?_
  case yy28 =>
    rintro wx ⟨⟨q1, q2⟩, q3, q4⟩
    go_simp
    first | done | rfl
  refine takeC (i := 4) (v := ?vv29) (by kernel_rfl) (by kernel_rfl) rfl (by kernel_rfl) (by kernel_rfl) (by kernel_rfl) (fun _ _ _ h => h) d3 ⟨.inl ⟨rfl, ?yy29⟩, fun _ => rfl⟩ ?_
  case yy29 =>
    rintro wx ⟨⟨q1, q2⟩, q3, q4⟩
    go_simp
    first | done | rfl
  refine takeC (i := 5) (v := ?vv30) (by kernel_rfl) (by kernel_rfl) rfl (by kernel_rfl) (by kernel_rfl) (by kernel_rfl) (fun _ _ _ h => h) d3 ⟨.inl ⟨rfl, ?yy30⟩, fun _ => rfl⟩ ?_
  case yy30 =>
    rintro wx ⟨⟨q1, q2⟩, q3, q4⟩
    go_simp
    first | done | rfl
  refine takeC (i := 6) (v := ?vv31) (by kernel_rfl) (by kernel_rfl) rfl (by kernel_rfl) (by kernel_rfl) (by kernel_rfl) (fun _ _ _ h => h) d3 ⟨.inl ⟨rfl, ?yy31⟩, fun _ => rfl⟩ ?_
  case yy31 =>
    rintro wx ⟨⟨q1, q2⟩, q3, q4⟩
    go_simp
    first | done | rfl
  refine takeC (i := 7) (v := ?vv32) (by kernel_rfl) (by kernel_rfl) rfl (by kernel_rfl) (by kernel_rfl) (by kernel_rfl) (fun _ _ _ h => h) d3 ⟨.inl ⟨rfl, ?yy32⟩, fun _ => rfl⟩ ?_
  case yy32 =>
    rintro wx ⟨⟨q1, q2⟩, q3, q4⟩
    go_simp
    first | done | rfl
  refine takeC (i := 8) (v := ?vv33) (by kernel_rfl) (by kernel_rfl) rfl (by kernel_rfl) (by kernel_rfl) (by kernel_rfl) (fun _ _ _ h => h) d3 ⟨.inl ⟨rfl, ?yy33⟩, fun _ => rfl⟩ ?_
  case yy33 =>
    rintro wx ⟨⟨q1, q2⟩, q3, q4⟩
    go_simp
    first | done | rfl
  refine takeC (i := 9) (v := ?vv34) (by kernel_rfl) (by kernel_rfl) rfl (by kernel_rfl) (by kernel_rfl) (by kernel_rfl) (fun _ _ _ h => h) d3 ⟨.inl ⟨rfl, ?yy34⟩, fun _ => rfl⟩ ?_
  case yy34 =>
    rintro wx ⟨⟨q1, q2⟩, q3, q4⟩
    go_simp
    first | done | rfl
  refine oneC (i := 10) (by kernel_rfl) rfl (fun K hK => ?_)
  go_simp
  refine CallsIn.mono (callsIn_wide.2 (hqd Ax nx cx lx Ay ny cy ly _ hrx.drew hix.lt hry.drew hiy.lt hix.val hiy.val (by omega) (by omega))) ?_
  rintro e w3 ⟨Aq, nq, cq, lq, Ar, nr, cr, lr, rfl, hiq, hrq, hir, hrr, hb3⟩
  have hB3 : Below w2.heap.size w2 w3 := ((Below.refl _ w2).drew).trans hb3
  have hbx3 := hbx.kept hB3; have hby3 := hby.kept hB3
  have d4 := And.intro hbx3.facts2.1 hby3.facts2.1
  refine hK _ _ (.inr d4) ?_
  clear hK K
  refine oneC (i := 11) (by kernel_rfl) rfl (fun K hK => ?_)
  go_simp
  refine hK _ _ (.inr d4) ?_
  clear hK K
  refine takeC (i := 12) (v := ?vv35) (by kernel_rfl) (by kernel_rfl) rfl (by kernel_rfl) (by kernel_rfl) (by kernel_rfl) (fun _ _ _ h => h) d4 ⟨.inl ⟨rfl, ?yy35⟩, fun _ => rfl⟩ ?_
  case yy35 =>
    rintro wx ⟨⟨q1, q2⟩, q3, q4⟩
    go_simp
    first | done | rfl
  refine takeC (i := 13) (v := ?vv36) (by kernel_rfl) (by kernel_rfl) rfl (by kernel_rfl) (by kernel_rfl) (by kernel_rfl) (fun _ _ _ h => h) d4 ⟨.inl ⟨rfl, ?yy36⟩, fun _ => rfl⟩ ?_
  case yy36 =>
    rintro wx ⟨⟨q1, q2⟩, q3, q4⟩
    go_simp
    first | done | rfl
  refine takeC (i := 14) (v := ?vv37) (by kernel_rfl) (by kernel_rfl) rfl (by kernel_rfl) (by kernel_rfl) (by kernel_rfl) (fun _ _ _ h => h) d4 ⟨.inl ⟨rfl, ?yy37⟩, fun _ => rfl⟩ ?_
  case yy37 =>
    rintro wx ⟨⟨q1, q2⟩, q3, q4⟩
    go_simp
    first | done | rfl
  refine takeC (i := 15) (v := ?vv38) (by kernel_rfl) (by kernel_rfl) rfl (by kernel_rfl) (by kernel_rfl) (by kernel_rfl) (fun _ _ _ h => h) d4 ⟨.inl ⟨rfl, ?yy38⟩, fun _ => rfl⟩ ?_
  case yy38 =>
    rintro wx ⟨⟨q1, q2⟩, q3, q4⟩
    go_simp
    first | done | rfl
  refine takeC (i := 16) (v := ?vv39) (by kernel_rfl) (by kernel_rfl) rfl (by kernel_rfl) (by kernel_rfl) (by kernel_rfl) (fun _ _ _ h => h) d4 ⟨.inl ⟨rfl, ?yy39⟩, fun _ => rfl⟩ ?_
  case yy39 =>
    rintro wx ⟨⟨q1, q2⟩, q3, q4⟩
    go_simp
    first | done | rfl
  refine takeC (i := 17) (v := ?vv40) (by kernel_rfl) (by kernel_rfl) rfl (by kernel_rfl) (by kernel_rfl) (by kernel_rfl) (fun _ _ _ h => h) d4 ⟨.inl ⟨rfl, ?yy40⟩, fun _ => rfl⟩ ?_
  case yy40 =>
    rintro wx ⟨⟨q1, q2⟩, q3, q4⟩
    go_simp
    first | done | rfl
  refine doneP (by kernel_rfl) ?_
  have hB4 := hB2.trans (hB3.mono hB2.size)
  have hx2 := x2.kept hB4; have hx3 := x3.kept hB4
  obtain ⟨⟨m0, m1⟩, m2, m3⟩ := hx2.facts2
  obtain ⟨⟨p0, p1⟩, p2, p3⟩ := hx3.facts2
  obtain ⟨⟨e0, e1⟩, _, _⟩ := hbx3.facts2
  obtain ⟨⟨f0, f1⟩, _, _⟩ := hby3.facts2
  have hBy2 : W0.heap.size ≤ By := Nat.le_trans hB1.size hBy
  have hnq : nq ≤ m := by rw [← hrq.len]; exact hiq.len (Nat.lt_of_le_of_lt (Nat.div_le_self _ _) (by rw [← hv]; exact iv_bound ht h.len hl))
  have hnr : nr ≤ m := by rw [← hrr.len]; exact hir.len (Nat.lt_of_le_of_lt (Nat.mod_le _ _) (by rw [← hv]; exact iv_bound ht h.len hl))
  by_cases hs : decide (v < 0) = decide (v' < 0)
  · have hs1 := decide_bne_of_both hs
    have ky := hby3.drew
    go_wp2_with (first | go_region | fail)
    have k2 := x2.kept hB4.drew; have k3 := x3.kept hB4.drew
    refine (wpIn_wide (n := 0)).1 ?_
    refine wpIn_region_C 100 (fun W => W.cell? ⟨By, 0, none⟩ = some (.bool (decide (v' < 0)))) hmix ?_
    have d6 : (World.drew w3.drew).cell? ⟨By, 0, none⟩ = some (.bool (decide (v' < 0))) := ky.facts2.1.1
    refine takeC (i := 0) (v := ?vv41) (by kernel_rfl) (by kernel_rfl) rfl (by kernel_rfl) (by kernel_rfl) (by kernel_rfl) (fun _ _ _ h => h) d6 ⟨.inl ⟨rfl, ?yy41⟩, fun _ => rfl⟩ ?_
    case yy41 =>
      rintro wx q1
      go_simp
      first | done | rfl
    refine takeC (i := 1) (v := ?vv42) (by kernel_rfl) (by kernel_rfl) rfl (by kernel_rfl) (by kernel_rfl) (by kernel_rfl) (fun _ _ _ h => h) d6 ⟨.inl ⟨rfl, ?yy42⟩, fun _ => rfl⟩ ?_
    case yy42 =>
      rintro wx q1
      go_simp
      first | done | rfl
    refine takeC (i := 2) (v := ?vv43) (by kernel_rfl) (by kernel_rfl) rfl (by kernel_rfl) (by kernel_rfl) (by kernel_rfl) (fun _ _ _ h => h) d6 ⟨.inl ⟨rfl, ?yy43⟩, fun _ => rfl⟩ ?_
    case yy43 =>
      rintro wx q1
      go_simp
      first | done | rfl
    refine takeC (i := 4) (v := ?vv44) (by kernel_rfl) (by kernel_rfl) rfl (by kernel_rfl) (by kernel_rfl) (by kernel_rfl) (fun _ _ _ h => h) d6 ⟨.inl ⟨rfl, ?yy44⟩, fun _ => rfl⟩ ?_
    case yy44 =>
      rintro wx q1
      go_simp
      first | done | rfl
    refine takeC (i := 5) (v := ?vv45) (by kernel_rfl) (by kernel_rfl) rfl (by kernel_rfl) (by kernel_rfl) (by kernel_rfl) (fun _ _ _ h => h) d6 ⟨.inl ⟨rfl, ?yy45⟩, fun _ => rfl⟩ ?_
    case yy45 =>
      rintro wx q1
      go_simp
      first | done | rfl
    refine takeC (i := 6) (v := ?vv46) (by kernel_rfl) (by kernel_rfl) rfl (by kernel_rfl) (by kernel_rfl) (by kernel_rfl) (fun _ _ _ h => h) d6 ⟨.inl ⟨rfl, ?yy46⟩, fun _ => rfl⟩ ?_
    case yy46 =>
      rintro wx q1
      go_simp
      first | done | rfl
    refine takeC (i := 7) (v := ?vv47) (by kernel_rfl) (by kernel_rfl) rfl (by kernel_rfl) (by kernel_rfl) (by kernel_rfl) (fun _ _ _ h => h) d6 ⟨.inl ⟨rfl, ?yy47⟩, fun _ => rfl⟩ ?_
    case yy47 =>
      rintro wx q1
      go_simp
      first | done | rfl
    refine takeC (i := 8) (v := ?vv48) (by kernel_rfl) (by kernel_rfl) rfl (by kernel_rfl) (by kernel_rfl) (by kernel_rfl) (fun _ _ _ h => h) d6 ⟨.inl ⟨rfl, ?yy48⟩, fun _ => rfl⟩ ?_
    case yy48 =>
      rintro wx q1
      go_simp
      first | done | rfl
    refine takeC (i := 9) (v := ?vv49) (by kernel_rfl) (by kernel_rfl) rfl (by kernel_rfl) (by kernel_rfl) (by kernel_rfl) (fun _ _ _ h => h) d6 ⟨.inl ⟨rfl, ?yy49⟩, fun _ => rfl⟩ ?_
    case yy49 =>
      rintro wx q1
      go_simp
      first | done | rfl
    refine takeC (i := 10) (v := ?vv50) (by kernel_rfl) (by kernel_rfl) rfl (by kernel_rfl) (by kernel_rfl) (by kernel_rfl) (fun _ _ _ h => h) d6 ⟨.inl ⟨rfl, ?yy50⟩, fun _ => rfl⟩ ?_
    case yy50 =>
      rintro wx q1
      go_simp
      first | done | rfl
    have hno1 := snorm_any false Aq nq cq lq _ (Rd.drew hrq.drew) hiq.lt (by omega)
    obtain ⟨qv, hqv⟩ : ∃ qv, iv false lq = qv := ⟨_, rfl⟩
    rw [hqv] at hno1
    refine oneC (i := 3) (by kernel_rfl) rfl (fun K hK => ?_)
    go_simp
    refine CallsIn.mono (callsIn_wide.2 hno1) ?_
    rintro e w6 ⟨A6, n6, c6, l6, rfl, hi6, hr6, hb6⟩
    have hB6 : Below (World.heap w3.drew).size w3.drew w6 := ((Below.refl _ _).drew).trans hb6
    have d7 : w6.cell? ⟨By, 0, none⟩ = some (.bool (decide (v' < 0))) := (ky.kept hB6).facts2.1.1
    refine hK _ _ (.inr d7) ?_
    clear hK K
    have hno2 := snorm_any (decide (v' < 0)) Ar nr cr lr _ (Rd.below (Rd.drew hrr) hB6) hir.lt (by omega)
    obtain ⟨rv, hrv⟩ : ∃ rv, iv (decide (v' < 0)) lr = rv := ⟨_, rfl⟩
    rw [hrv] at hno2
    refine oneC (i := 11) (by kernel_rfl) rfl (fun K hK => ?_)
    go_simp
    refine CallsIn.mono (callsIn_wide.2 hno2) ?_
    rintro e w7 ⟨A7, n7, c7, l7, rfl, hi7, hr7, hb7⟩
    have hB7 : Below (World.heap w3.drew).size w3.drew w7 := hB6.trans (hb7.mono hB6.size)
    have ky7 := ky.kept hB7
    refine hK _ _ (.inr ky7.facts2.1.1) ?_
    clear hK K
    have j2 := k2.kept hB7; have j3 := k3.kept hB7
    have hl3 := x3.lt
    obtain ⟨⟨m0, m1⟩, m2, m3⟩ := j2.facts2
    obtain ⟨⟨p0, p1⟩, p2, p3⟩ := j3.facts2
    refine oneC (i := 12) (by kernel_rfl) rfl (fun K hK => ?_)
    go_simp
    have ky8 := (ky7.other (p := ⟨w.heap.size + 1 + 1, 0, none⟩) (by simp; omega) (.bool (decide (qv < 0)))).other (p := ⟨w.heap.size + 1 + 1, 1, none⟩) (by simp; omega) (.slice A6 n6 c6)
    refine hK _ _ (.inr ky8.facts2.1.1) ?_
    clear hK K
    refine oneC (i := 13) (by kernel_rfl) rfl (fun K hK => ?_)
    go_simp
    have ky9 := (ky8.other (p := ⟨w.heap.size + 1 + 1 + 1, 0, none⟩) (by simp; omega) (.bool (decide (rv < 0)))).other (p := ⟨w.heap.size + 1 + 1 + 1, 1, none⟩) (by simp; omega) (.slice A7 n7 c7)
    refine hK _ _ (.inr ky9.facts2.1.1) ?_
    clear hK K
    refine oneC (i := 14) (by kernel_rfl) rfl (fun K hK => ?_)
    go_simp
    refine hK _ _ (.inr ky9.facts2.1.1) ?_
    clear hK K
    refine doneP (by kernel_rfl) ?_
    obtain ⟨y2, y3⟩ := put22_box j2 j3 (by omega) (.bool (decide (qv < 0))) (.slice A6 n6 c6) (.bool (decide (rv < 0))) (.slice A7 n7 c7)
    obtain ⟨⟨m0, m1⟩, _, _⟩ := y2.facts2
    obtain ⟨⟨p0, p1⟩, _, _⟩ := y3.facts2
    unfold put22 at m0 m1 p0 p1
    go_wp2
    refine bodyPost_ret (v := .tuple #[.agg #[.bool (decide (qv < 0)), .slice A6 n6 c6], .agg #[.bool (decide (rv < 0)), .slice A7 n7 c7], .int .i64 0]) (by simp [results, Try.results10, go_sem, m0, m1, p0, p1]) rfl ?_
    have hmath := floor_same v v' hz hs
    rw [← hiq.val, ← hir.val] at hmath
    rw [show sg false (val lq) = qv from hqv, show sg (decide (v' < 0)) (val lr) = rv from hrv] at hmath
    have hBf := hB0.trans ((hB4.drew.trans (hB7.mono hB4.drew.size)).mono hB0.size)
    exact ⟨qv, rv, A6, n6, c6, l6, A7, n7, c7, l7, rfl, hmath.1, hmath.2, hi6, put22_rd j2 j3 (by omega) _ _ _ _ (hr6.below hb7), hi7, put22_rd j2 j3 (by omega) _ _ _ _ hr7, put22_below hBf (by omega) (by omega) _ _ _ _⟩
  · have hs' := beq_eq_false_iff_ne.2 hs
    have hs1 := decide_bne_of_not hs'
    have hzr := hir.zero_iff
    rw [hrr.len] at hzr
    rcases (by omega : nr = 0 ∨ 0 < nr) with rfl | hr1
    · have hr0 : v.natAbs % v'.natAbs = 0 := hzr.2 rfl
      have ky := hby3.drew
      go_wp2_with (first | go_region | fail)
      have k2 := x2.kept hB4.drew; have k3 := x3.kept hB4.drew
      refine (wpIn_wide (n := 0)).1 ?_
      refine wpIn_region_C 100 (fun W => W.cell? ⟨By, 0, none⟩ = some (.bool (decide (v' < 0)))) hmix ?_
      have d6 : (World.drew w3.drew).cell? ⟨By, 0, none⟩ = some (.bool (decide (v' < 0))) := ky.facts2.1.1
      refine takeC (i := 0) (v := ?vv51) (by kernel_rfl) (by kernel_rfl) rfl (by kernel_rfl) (by kernel_rfl) (by kernel_rfl) (fun _ _ _ h => h) d6 ⟨.inl ⟨rfl, ?yy51⟩, fun _ => rfl⟩ ?_
      case yy51 =>
        rintro wx q1
        go_simp
        first | done | rfl
      refine takeC (i := 1) (v := ?vv52) (by kernel_rfl) (by kernel_rfl) rfl (by kernel_rfl) (by kernel_rfl) (by kernel_rfl) (fun _ _ _ h => h) d6 ⟨.inl ⟨rfl, ?yy52⟩, fun _ => rfl⟩ ?_
      case yy52 =>
        rintro wx q1
        go_simp
        first | done | rfl
      refine takeC (i := 2) (v := ?vv53) (by kernel_rfl) (by kernel_rfl) rfl (by kernel_rfl) (by kernel_rfl) (by kernel_rfl) (fun _ _ _ h => h) d6 ⟨.inl ⟨rfl, ?yy53⟩, fun _ => rfl⟩ ?_
      case yy53 =>
        rintro wx q1
        go_simp
        first | done | rfl
      refine takeC (i := 4) (v := ?vv54) (by kernel_rfl) (by kernel_rfl) rfl (by kernel_rfl) (by kernel_rfl) (by kernel_rfl) (fun _ _ _ h => h) d6 ⟨.inl ⟨rfl, ?yy54⟩, fun _ => rfl⟩ ?_
      case yy54 =>
        rintro wx q1
        go_simp
        first | done | rfl
      refine takeC (i := 5) (v := ?vv55) (by kernel_rfl) (by kernel_rfl) rfl (by kernel_rfl) (by kernel_rfl) (by kernel_rfl) (fun _ _ _ h => h) d6 ⟨.inl ⟨rfl, ?yy55⟩, fun _ => rfl⟩ ?_
      case yy55 =>
        rintro wx q1
        go_simp
        first | done | rfl
      refine takeC (i := 6) (v := ?vv56) (by kernel_rfl) (by kernel_rfl) rfl (by kernel_rfl) (by kernel_rfl) (by kernel_rfl) (fun _ _ _ h => h) d6 ⟨.inl ⟨rfl, ?yy56⟩, fun _ => rfl⟩ ?_
      case yy56 =>
        rintro wx q1
        go_simp
        first | done | rfl
      refine takeC (i := 7) (v := ?vv57) (by kernel_rfl) (by kernel_rfl) rfl (by kernel_rfl) (by kernel_rfl) (by kernel_rfl) (fun _ _ _ h => h) d6 ⟨.inl ⟨rfl, ?yy57⟩, fun _ => rfl⟩ ?_
      case yy57 =>
        rintro wx q1
        go_simp
        first | done | rfl
      refine takeC (i := 8) (v := ?vv58) (by kernel_rfl) (by kernel_rfl) rfl (by kernel_rfl) (by kernel_rfl) (by kernel_rfl) (fun _ _ _ h => h) d6 ⟨.inl ⟨rfl, ?yy58⟩, fun _ => rfl⟩ ?_
      case yy58 =>
        rintro wx q1
        go_simp
        first | done | rfl
      refine takeC (i := 9) (v := ?vv59) (by kernel_rfl) (by kernel_rfl) rfl (by kernel_rfl) (by kernel_rfl) (by kernel_rfl) (fun _ _ _ h => h) d6 ⟨.inl ⟨rfl, ?yy59⟩, fun _ => rfl⟩ ?_
      case yy59 =>
        rintro wx q1
        go_simp
        first | done | rfl
      refine takeC (i := 10) (v := ?vv60) (by kernel_rfl) (by kernel_rfl) rfl (by kernel_rfl) (by kernel_rfl) (by kernel_rfl) (fun _ _ _ h => h) d6 ⟨.inl ⟨rfl, ?yy60⟩, fun _ => rfl⟩ ?_
      case yy60 =>
        rintro wx q1
        go_simp
        first | done | rfl
      have hno1 := snorm_any true Aq nq cq lq _ (Rd.drew hrq.drew) hiq.lt (by omega)
      obtain ⟨qv, hqv⟩ : ∃ qv, iv true lq = qv := ⟨_, rfl⟩
      rw [hqv] at hno1
      refine oneC (i := 3) (by kernel_rfl) rfl (fun K hK => ?_)
      go_simp
      refine CallsIn.mono (callsIn_wide.2 hno1) ?_
      rintro e w6 ⟨A6, n6, c6, l6, rfl, hi6, hr6, hb6⟩
      have hB6 : Below (World.heap w3.drew).size w3.drew w6 := ((Below.refl _ _).drew).trans hb6
      have d7 : w6.cell? ⟨By, 0, none⟩ = some (.bool (decide (v' < 0))) := (ky.kept hB6).facts2.1.1
      refine hK _ _ (.inr d7) ?_
      clear hK K
      have hno2 := snorm_any (decide (v' < 0)) Ar 0 cr lr _ (Rd.below (Rd.drew hrr) hB6) hir.lt (by omega)
      obtain ⟨rv, hrv⟩ : ∃ rv, iv (decide (v' < 0)) lr = rv := ⟨_, rfl⟩
      rw [hrv] at hno2
      refine oneC (i := 11) (by kernel_rfl) rfl (fun K hK => ?_)
      go_simp
      refine CallsIn.mono (callsIn_wide.2 hno2) ?_
      rintro e w7 ⟨A7, n7, c7, l7, rfl, hi7, hr7, hb7⟩
      have hB7 : Below (World.heap w3.drew).size w3.drew w7 := hB6.trans (hb7.mono hB6.size)
      have ky7 := ky.kept hB7
      refine hK _ _ (.inr ky7.facts2.1.1) ?_
      clear hK K
      have j2 := k2.kept hB7; have j3 := k3.kept hB7
      have hl3 := x3.lt
      obtain ⟨⟨m0, m1⟩, m2, m3⟩ := j2.facts2
      obtain ⟨⟨p0, p1⟩, p2, p3⟩ := j3.facts2
      refine oneC (i := 12) (by kernel_rfl) rfl (fun K hK => ?_)
      go_simp
      have ky8 := (ky7.other (p := ⟨w.heap.size + 1 + 1, 0, none⟩) (by simp; omega) (.bool (decide (qv < 0)))).other (p := ⟨w.heap.size + 1 + 1, 1, none⟩) (by simp; omega) (.slice A6 n6 c6)
      refine hK _ _ (.inr ky8.facts2.1.1) ?_
      clear hK K
      refine oneC (i := 13) (by kernel_rfl) rfl (fun K hK => ?_)
      go_simp
      have ky9 := (ky8.other (p := ⟨w.heap.size + 1 + 1 + 1, 0, none⟩) (by simp; omega) (.bool (decide (rv < 0)))).other (p := ⟨w.heap.size + 1 + 1 + 1, 1, none⟩) (by simp; omega) (.slice A7 n7 c7)
      refine hK _ _ (.inr ky9.facts2.1.1) ?_
      clear hK K
      refine oneC (i := 14) (by kernel_rfl) rfl (fun K hK => ?_)
      go_simp
      refine hK _ _ (.inr ky9.facts2.1.1) ?_
      clear hK K
      refine doneP (by kernel_rfl) ?_
      obtain ⟨y2, y3⟩ := put22_box j2 j3 (by omega) (.bool (decide (qv < 0))) (.slice A6 n6 c6) (.bool (decide (rv < 0))) (.slice A7 n7 c7)
      obtain ⟨⟨m0, m1⟩, _, _⟩ := y2.facts2
      obtain ⟨⟨p0, p1⟩, _, _⟩ := y3.facts2
      unfold put22 at m0 m1 p0 p1
      go_wp2
      refine bodyPost_ret (v := .tuple #[.agg #[.bool (decide (qv < 0)), .slice A6 n6 c6], .agg #[.bool (decide (rv < 0)), .slice A7 n7 c7], .int .i64 0]) (by simp [results, Try.results10, go_sem, m0, m1, p0, p1]) rfl ?_
      have hmath := floor_even v v' hz hs' hr0
      rw [← hiq.val, ← hir.val] at hmath
      rw [show sg true (val lq) = qv from hqv, show sg (decide (v' < 0)) (val lr) = rv from hrv] at hmath
      have hBf := hB0.trans ((hB4.drew.trans (hB7.mono hB4.drew.size)).mono hB0.size)
      exact ⟨qv, rv, A6, n6, c6, l6, A7, n7, c7, l7, rfl, hmath.1, hmath.2, hi6, put22_rd j2 j3 (by omega) _ _ _ _ (hr6.below hb7), hi7, put22_rd j2 j3 (by omega) _ _ _ _ hr7, put22_below hBf (by omega) (by omega) _ _ _ _⟩
    · have hr0 : 0 < v.natAbs % v'.natAbs := by omega
      have hle5 : val lr ≤ val ly := by rw [hir.val, hiy.val]; exact Nat.le_of_lt (Nat.mod_lt _ (by omega))
      have hW1 : Below w3.heap.size w3 ((w3.drew.alloc (.cells #[.int .u32 1] 53)).alloc (.cells #[.slice Aq nq cq, .slice (some ⟨w3.heap.size, 0, none⟩) 1 1] 23)) := (((Below.refl _ w3).drew).alloc (Nat.le_refl _) _).alloc (by simp) _
      have hds : Rds ((w3.drew.alloc (.cells #[.int .u32 1] 53)).alloc (.cells #[.slice Aq nq cq, .slice (some ⟨w3.heap.size, 0, none⟩) 1 1] 23)) (some ⟨w3.heap.size + 1, 0, none⟩) 2 [lq, [1]] := by
        have := Rds.two ((hrq.drew).alloc (.cells #[.int .u32 1] 53)) hiq.lt (by omega) (Rd.one w3.drew 1 53) (by intro x hx; simp at hx; subst hx; decide) (by omega) 23
        rwa [World.size_alloc] at this
      go_wp2_with (first | go_region | (go_at_call 37; refine (add_any _ 2 2 _ _ hds (by omega)).mono ?_; rintro e w4 ⟨A4, n4, c4, l4, rfl, hi4, hr4, hb4⟩; have hB34 := hW1.trans (hb4.mono hW1.size); have hby4 := hby3.kept hB34; obtain ⟨⟨s0, s1⟩, _, _⟩ := hby4.facts2) | (go_at_call 38; refine (sub_any Ay ny cy ly Ar nr cr lr w4 ((hry.below hB3).below hB34) (hrr.below hB34) hiy.lt hir.lt hle5 (by omega) (by omega)).mono ?_; rw [hiy.val, hir.val]; rintro e w5 ⟨A5, n5, c5, l5, rfl, hi5, hr5, hb5⟩))
      have hB35 := hB34.trans (hb5.mono hB34.size)
      have hv4 : val l4 = v.natAbs / v'.natAbs + 1 := by rw [hi4.val]; simp only [List.map_cons, List.map_nil, List.sum_cons, List.sum_nil, hiq.val]; rfl
      have hn4 : n4 ≤ m + 1 := by
        rw [← hr4.len]
        refine hi4.len ?_
        rw [← hi4.val, hv4]
        have e1 : v.natAbs < BB ^ m := by rw [← hv]; exact iv_bound ht h.len hl
        have e2 := Nat.div_le_self v.natAbs v'.natAbs
        rw [Nat.pow_succ]
        unfold BB at *
        omega
      have hn5 : n5 ≤ m := by rw [← hr5.len]; exact hi5.len (Nat.lt_of_le_of_lt (Nat.sub_le _ _) (by rw [← hv']; exact iv_bound ht' h'.len hl'))
      have ky := hby3.kept hB35
      have k2 := x2.kept (hB4.trans (hB35.mono hB4.size)); have k3 := x3.kept (hB4.trans (hB35.mono hB4.size))
      refine (wpIn_wide (n := 0)).1 ?_
      refine wpIn_region_C 100 (fun W => W.cell? ⟨By, 0, none⟩ = some (.bool (decide (v' < 0)))) hmix ?_
      have d6 : (World.drew w5).cell? ⟨By, 0, none⟩ = some (.bool (decide (v' < 0))) := ky.facts2.1.1
      refine takeC (i := 0) (v := ?vv61) (by kernel_rfl) (by kernel_rfl) rfl (by kernel_rfl) (by kernel_rfl) (by kernel_rfl) (fun _ _ _ h => h) d6 ⟨.inl ⟨rfl, ?yy61⟩, fun _ => rfl⟩ ?_
      case yy61 =>
        rintro wx q1
        go_simp
        first | done | rfl
      refine takeC (i := 1) (v := ?vv62) (by kernel_rfl) (by kernel_rfl) rfl (by kernel_rfl) (by kernel_rfl) (by kernel_rfl) (fun _ _ _ h => h) d6 ⟨.inl ⟨rfl, ?yy62⟩, fun _ => rfl⟩ ?_
      case yy62 =>
        rintro wx q1
        go_simp
        first | done | rfl
      refine takeC (i := 2) (v := ?vv63) (by kernel_rfl) (by kernel_rfl) rfl (by kernel_rfl) (by kernel_rfl) (by kernel_rfl) (fun _ _ _ h => h) d6 ⟨.inl ⟨rfl, ?yy63⟩, fun _ => rfl⟩ ?_
      case yy63 =>
        rintro wx q1
        go_simp
        first | done | rfl
      refine takeC (i := 4) (v := ?vv64) (by kernel_rfl) (by kernel_rfl) rfl (by kernel_rfl) (by kernel_rfl) (by kernel_rfl) (fun _ _ _ h => h) d6 ⟨.inl ⟨rfl, ?yy64⟩, fun _ => rfl⟩ ?_
      case yy64 =>
        rintro wx q1
        go_simp
        first | done | rfl
      refine takeC (i := 5) (v := ?vv65) (by kernel_rfl) (by kernel_rfl) rfl (by kernel_rfl) (by kernel_rfl) (by kernel_rfl) (fun _ _ _ h => h) d6 ⟨.inl ⟨rfl, ?yy65⟩, fun _ => rfl⟩ ?_
      case yy65 =>
        rintro wx q1
        go_simp
        first | done | rfl
      refine takeC (i := 6) (v := ?vv66) (by kernel_rfl) (by kernel_rfl) rfl (by kernel_rfl) (by kernel_rfl) (by kernel_rfl) (fun _ _ _ h => h) d6 ⟨.inl ⟨rfl, ?yy66⟩, fun _ => rfl⟩ ?_
      case yy66 =>
        rintro wx q1
        go_simp
        first | done | rfl
      refine takeC (i := 7) (v := ?vv67) (by kernel_rfl) (by kernel_rfl) rfl (by kernel_rfl) (by kernel_rfl) (by kernel_rfl) (fun _ _ _ h => h) d6 ⟨.inl ⟨rfl, ?yy67⟩, fun _ => rfl⟩ ?_
      case yy67 =>
        rintro wx q1
        go_simp
        first | done | rfl
      refine takeC (i := 8) (v := ?vv68) (by kernel_rfl) (by kernel_rfl) rfl (by kernel_rfl) (by kernel_rfl) (by kernel_rfl) (fun _ _ _ h => h) d6 ⟨.inl ⟨rfl, ?yy68⟩, fun _ => rfl⟩ ?_
      case yy68 =>
        rintro wx q1
        go_simp
        first | done | rfl
      refine takeC (i := 9) (v := ?vv69) (by kernel_rfl) (by kernel_rfl) rfl (by kernel_rfl) (by kernel_rfl) (by kernel_rfl) (fun _ _ _ h => h) d6 ⟨.inl ⟨rfl, ?yy69⟩, fun _ => rfl⟩ ?_
      case yy69 =>
        rintro wx q1
        go_simp
        first | done | rfl
      refine takeC (i := 10) (v := ?vv70) (by kernel_rfl) (by kernel_rfl) rfl (by kernel_rfl) (by kernel_rfl) (by kernel_rfl) (fun _ _ _ h => h) d6 ⟨.inl ⟨rfl, ?yy70⟩, fun _ => rfl⟩ ?_
      case yy70 =>
        rintro wx q1
        go_simp
        first | done | rfl
      have hno1 := snorm_any true A4 n4 c4 l4 _ (Rd.drew (hr4.below hb5)) hi4.lt (by omega)
      obtain ⟨qv, hqv⟩ : ∃ qv, iv true l4 = qv := ⟨_, rfl⟩
      rw [hqv] at hno1
      refine oneC (i := 3) (by kernel_rfl) rfl (fun K hK => ?_)
      go_simp
      refine CallsIn.mono (callsIn_wide.2 hno1) ?_
      rintro e w6 ⟨A6, n6, c6, l6, rfl, hi6, hr6, hb6⟩
      have hB6 : Below (World.heap w5).size w5 w6 := ((Below.refl _ _).drew).trans hb6
      have d7 : w6.cell? ⟨By, 0, none⟩ = some (.bool (decide (v' < 0))) := (ky.kept hB6).facts2.1.1
      refine hK _ _ (.inr d7) ?_
      clear hK K
      have hno2 := snorm_any (decide (v' < 0)) A5 n5 c5 l5 _ (Rd.below hr5 hB6) hi5.lt (by omega)
      obtain ⟨rv, hrv⟩ : ∃ rv, iv (decide (v' < 0)) l5 = rv := ⟨_, rfl⟩
      rw [hrv] at hno2
      refine oneC (i := 11) (by kernel_rfl) rfl (fun K hK => ?_)
      go_simp
      refine CallsIn.mono (callsIn_wide.2 hno2) ?_
      rintro e w7 ⟨A7, n7, c7, l7, rfl, hi7, hr7, hb7⟩
      have hB7 : Below (World.heap w5).size w5 w7 := hB6.trans (hb7.mono hB6.size)
      have ky7 := ky.kept hB7
      refine hK _ _ (.inr ky7.facts2.1.1) ?_
      clear hK K
      have j2 := k2.kept hB7; have j3 := k3.kept hB7
      have hl3 := x3.lt
      obtain ⟨⟨m0, m1⟩, m2, m3⟩ := j2.facts2
      obtain ⟨⟨p0, p1⟩, p2, p3⟩ := j3.facts2
      refine oneC (i := 12) (by kernel_rfl) rfl (fun K hK => ?_)
      go_simp
      have ky8 := (ky7.other (p := ⟨w.heap.size + 1 + 1, 0, none⟩) (by simp; omega) (.bool (decide (qv < 0)))).other (p := ⟨w.heap.size + 1 + 1, 1, none⟩) (by simp; omega) (.slice A6 n6 c6)
      refine hK _ _ (.inr ky8.facts2.1.1) ?_
      clear hK K
      refine oneC (i := 13) (by kernel_rfl) rfl (fun K hK => ?_)
      go_simp
      have ky9 := (ky8.other (p := ⟨w.heap.size + 1 + 1 + 1, 0, none⟩) (by simp; omega) (.bool (decide (rv < 0)))).other (p := ⟨w.heap.size + 1 + 1 + 1, 1, none⟩) (by simp; omega) (.slice A7 n7 c7)
      refine hK _ _ (.inr ky9.facts2.1.1) ?_
      clear hK K
      refine oneC (i := 14) (by kernel_rfl) rfl (fun K hK => ?_)
      go_simp
      refine hK _ _ (.inr ky9.facts2.1.1) ?_
      clear hK K
      refine doneP (by kernel_rfl) ?_
      obtain ⟨y2, y3⟩ := put22_box j2 j3 (by omega) (.bool (decide (qv < 0))) (.slice A6 n6 c6) (.bool (decide (rv < 0))) (.slice A7 n7 c7)
      obtain ⟨⟨m0, m1⟩, _, _⟩ := y2.facts2
      obtain ⟨⟨p0, p1⟩, _, _⟩ := y3.facts2
      unfold put22 at m0 m1 p0 p1
      go_wp2
      refine bodyPost_ret (v := .tuple #[.agg #[.bool (decide (qv < 0)), .slice A6 n6 c6], .agg #[.bool (decide (rv < 0)), .slice A7 n7 c7], .int .i64 0]) (by simp [results, Try.results10, go_sem, m0, m1, p0, p1]) rfl ?_
      have hmath := floor_down v v' hz hs' hr0
      rw [← hv4, ← hi5.val] at hmath
      rw [show sg true (val l4) = qv from hqv, show sg (decide (v' < 0)) (val l5) = rv from hrv] at hmath
      have hBf := hB0.trans (((hB4.trans (hB35.mono hB4.size)).trans (hB7.mono (hB4.trans (hB35.mono hB4.size)).size)).mono hB0.size)
      exact ⟨qv, rv, A6, n6, c6, l6, A7, n7, c7, l7, rfl, hmath.1, hmath.2, hi6, put22_rd j2 j3 (by omega) _ _ _ _ (hr6.below hb7), hi7, put22_rd j2 j3 (by omega) _ _ _ _ hr7, put22_below hBf (by omega) (by omega) _ _ _ _⟩
end Go.Proofs.Wd

namespace Go.Proofs.Wd
open Go.RowKit Lb
attribute [local go_sem] Oper.semAt_some wide_fn wide_depth

theorem of_lit (k : Int) (s : Bool) (m : Nat) (hk : -9223372036854775808 ≤ k) (hk2 : k ≤ 9223372036854775807) (hs : decide (k < 0) = s) (hm : k.natAbs = m) (w : World) :
    Calls Try.prog 27 #[.int .i64 k] w fun e w' => ∃ A n c l, e = .returned (.agg #[.bool s, .slice A n c]) ∧ Is l m ∧ Rd w' A n c l ∧ Below w.heap.size w w' := by
  subst hs
  subst hm
  exact sof2_any k hk hk2 w

theorem len_of_small {l : List Nat} {v n k : Nat} (hi : Is l v) (hl : l.length = n) (hv : v < BB ^ k) : n ≤ k := by
  rw [← hl]; exact hi.len hv

theorem div_lit (v v' q r : Int) (s s' sq sr : Bool) (a b mq mr : Nat) (hs : decide (v < 0) = s) (hs' : decide (v' < 0) = s') (ha : v.natAbs = a) (hb : v'.natAbs = b) (ha2 : a < BB) (hb2 : b < BB) (hb0 : 0 < b)
    (hu : ∀ q' r' : Int, v = q' * v' + r' → FloorRest r' v' → q' = q ∧ r' = r) (hsq : decide (q < 0) = sq) (hsr : decide (r < 0) = sr) (hmq : q.natAbs = mq) (hmr : r.natAbs = mr)
    (A : Option Addr) (n c : Nat) (l : List Nat) (A' : Option Addr) (n' c' : Nat) (l' : List Nat) (w : World) (h : Rd w A n c l) (hi : Is l a) (h' : Rd w A' n' c' l') (hi' : Is l' b) :
    Calls Try.prog 10 #[.agg #[.bool s, .slice A n c], .agg #[.bool s', .slice A' n' c']] w fun e w' => ∃ A1 n1 c1 l1 A2 n2 c2 l2, e = .returned (.tuple #[.agg #[.bool sq, .slice A1 n1 c1], .agg #[.bool sr, .slice A2 n2 c2], .int .i64 0]) ∧
      Is l1 mq ∧ Rd w' A1 n1 c1 l1 ∧ Is l2 mr ∧ Rd w' A2 n2 c2 l2 ∧ Below w.heap.size w w' := by
  subst hs; subst hs'; subst ha; subst hb; subst hsq; subst hsr; subst hmq; subst hmr
  have e1 := len_of_small (k := 1) hi h.len (by rwa [Nat.pow_one])
  have e2 := len_of_small (k := 1) hi' h'.len (by rwa [Nat.pow_one])
  refine (sdiv_any _ A n c l _ A' n' c' l' w v v' h hi.lt h' hi'.lt 1 e1 e2 (by omega) (iv_norm hi) (iv_norm hi') (by omega) (qdiv_small _ _ hb0 hb2)).mono ?_
  rintro e w' ⟨q', r', A1, n1, c1, l1, A2, n2, c2, l2, rfl, hq, hr, h1, h2, h3, h4, h5⟩
  obtain ⟨rfl, rfl⟩ := hu q' r' hq hr
  exact ⟨A1, n1, c1, l1, A2, n2, c2, l2, rfl, h1, h2, h3, h4, h5⟩

theorem small_lit (v : Int) (s : Bool) (m : Nat) (hs : decide (v < 0) = s) (hm : v.natAbs = m) (hk : -9223372036854775808 ≤ v) (hk2 : v ≤ 9223372036854775807) (A : Option Addr) (n c : Nat) (l : List Nat) (w : World) (h : Rd w A n c l) (hi : Is l m) :
    Calls Try.prog 12 #[.agg #[.bool s, .slice A n c], .int .i64 v] w fun e w' => e = .returned (.bool true) ∧ Below w.heap.size w w' := by
  subst hm
  have := lawsmall_any v A n c l v w h hi s hs hk hk2
  rwa [decide_eq_true (rfl : v = v)] at this

theorem len_lit {l : List Nat} {v : Nat} {w : World} {A : Option Addr} {n c : Nat} (hi : Is l v) (hr : Rd w A n c l) (hv : v < BB) : n ≤ 1099511627776 :=
  Nat.le_trans (len_of_small (k := 1) hi hr.len (by rwa [Nat.pow_one])) (by omega)

theorem smalls_lit (v : Int) (s : Bool) (m : Nat) (hs : decide (v < 0) = s) (hm : v.natAbs = m) (hk : -9223372036854775808 ≤ v ∧ v ≤ 9223372036854775807) (A : Option Addr) (n c : Nat) (l : List Nat) (w : World) (h : Rd w A n c l) (hi : Is l m) :
    Calls Try.prog 26 #[.agg #[.bool s, .slice A n c]] w fun e w' => e = .returned (.tuple #[.int .i64 v, .bool true]) ∧ Below w.heap.size w w' := by
  subst hm
  have e1 := len_of_small (k := 2) hi h.len (by unfold BB; omega)
  have := ssmall_any s A n c l w v h hi.lt (by omega) (by subst hs; exact iv_norm hi)
  rwa [show smI v = v from if_pos (okI_true hk), okI_true hk] at this

theorem add_lit (v v' : Int) (s s' sr : Bool) (m m' mr : Nat) (hs : decide (v < 0) = s) (hs' : decide (v' < 0) = s') (hm : v.natAbs = m) (hm' : v'.natAbs = m') (h1 : m < BB) (h2 : m' < BB) (hsr : decide (v + v' < 0) = sr) (hmr : (v + v').natAbs = mr)
    (_A : Option Addr) (_n _c : Nat) (l : List Nat) (_A' : Option Addr) (_n' _c' : Nat) (l' : List Nat) (w : World) {B : Option Addr} (h : IRd w B 2 [(s, l), (s', l')]) (hi : Is l m) (hi' : Is l' m') :
    Calls Try.prog 20 #[.slice B 2 2] w fun e w' => ∃ A n c l, e = .returned (.agg #[.bool sr, .slice A n c]) ∧ Is l mr ∧ Rd w' A n c l ∧ Below w.heap.size w w' := by
  subst hs; subst hs'; subst hm; subst hm'; subst hsr; subst hmr
  have b1 : (iv (decide (v < 0)) l).natAbs < BB ^ 1 := by rw [iv_norm hi, Nat.pow_one]; exact h1
  have b2 : (iv (decide (v' < 0)) l').natAbs < BB ^ 1 := by rw [iv_norm hi', Nat.pow_one]; exact h2
  have := sadd_any B 2 2 _ 1 w h (by omega) (by omega) (by omega) (ivAt_two (decide (v < 0), l) (decide (v' < 0), l') 1 b1 b2)
  have hsum : isum [(decide (v < 0), l), (decide (v' < 0), l')] 2 = v + v' := by
    show (0 + iv (decide (v < 0)) l) + iv (decide (v' < 0)) l' = _
    rw [iv_norm hi, iv_norm hi']
    omega
  rw [hsum] at this
  exact this

set_option maxRecDepth 100000 in
set_option maxHeartbeats 2000000 in
theorem wakes_any (w : World) : Calls Try.prog 9 #[] w fun e w' => e = .returned (.bool true) ∧ Below w.heap.size w w' := by
  have o1 := of_lit (-7) true 7 (by omega) (by omega) rfl rfl
  have o2 := of_lit 2 false 2 (by omega) (by omega) rfl rfl
  have o3 := of_lit 7 false 7 (by omega) (by omega) rfl rfl
  have o4 := of_lit (-2) true 2 (by omega) (by omega) rfl rfl
  have o5 := of_lit (-9223372036854775808) true 9223372036854775808 (by omega) (by omega) rfl rfl
  have o6 := of_lit 5 false 5 (by omega) (by omega) rfl rfl
  have o7 := of_lit (-8) true 8 (by omega) (by omega) rfl rfl
  have v1 := div_lit (-7) 2 (-4) 1 true false true false 7 2 4 1 rfl rfl rfl rfl (by decide) (by decide) (by decide) (fun q r h1 h2 => by unfold FloorRest at h2; omega) rfl rfl rfl rfl
  have v2 := div_lit 7 (-2) (-4) (-1) false true true true 7 2 4 1 rfl rfl rfl rfl (by decide) (by decide) (by decide) (fun q r h1 h2 => by unfold FloorRest at h2; omega) rfl rfl rfl rfl
  have s1 := small_lit (-4) true 4 rfl rfl (by omega) (by omega)
  have s2 := small_lit 1 false 1 rfl rfl (by omega) (by omega)
  have s3 := small_lit (-1) true 1 rfl rfl (by omega) (by omega)
  have s4 := small_lit (-3) true 3 rfl rfl (by omega) (by omega)
  have v3 := smalls_lit (-9223372036854775808) true 9223372036854775808 rfl rfl (by omega)
  have v4 := add_lit 5 (-8) false true true 5 8 3 rfl rfl rfl rfl (by decide) (by decide) rfl rfl
  have v5 := fun w => ssign_any true none 0 0 [] w (Rd.nil_ w) Lt_nil (by omega)
  have e5 : (iv true []).sign = 0 := rfl
  simp only [e5] at v5
  go_enter Try.func9, Try.ntmps9
  go_wp2_with (first | (go_at_call 27; first | ((with_reducible refine (o1 _).mono ?_); rintro e w1 ⟨A1, n1, c1, l1, rfl, hi1, hr1, hb1⟩) | ((with_reducible refine (o2 _).mono ?_); rintro e w2 ⟨A2, n2, c2, l2, rfl, hi2, hr2, hb2⟩) | ((with_reducible refine (o3 _).mono ?_); rintro e w3 ⟨A3, n3, c3, l3, rfl, hi3, hr3, hb3⟩; have x1 := (BoxN.new d1 25 #[.bool true, .slice P1 pn1 pc1]).alloc (.cells #[.bool false, .slice Q1 qn1 qc1] 25); have x2 := BoxN.at_ (d1.alloc (.cells #[.bool true, .slice P1 pn1 pc1] 25)) 25 #[.bool false, .slice Q1 qn1 qc1] (b := d1.heap.size + 1) (by simp); have p1 := (pr1.alloc (.cells #[.bool true, .slice P1 pn1 pc1] 25)).alloc (.cells #[.bool false, .slice Q1 qn1 qc1] 25); have q1 := (qr1.alloc (.cells #[.bool true, .slice P1 pn1 pc1] 25)).alloc (.cells #[.bool false, .slice Q1 qn1 qc1] 25)) | ((with_reducible refine (o4 _).mono ?_); rintro e w4 ⟨A4, n4, c4, l4, rfl, hi4, hr4, hb4⟩; have K4 := hb3.trans (hb4.mono hb3.size)) | ((with_reducible refine (o5 _).mono ?_); rintro e w5 ⟨A5, n5, c5, l5, rfl, hi5, hr5, hb5⟩; have K6 := ((K5.alloc K5.size (.cells #[.bool true, .slice P2 pn2 pc2] 25)).alloc (le_alloc K5.size _) (.cells #[.bool true, .slice Q2 qn2 qc2] 25)).trans (hb5.mono (le_alloc (le_alloc K5.size _) _)); have x3 := (BoxN.new d2 25 #[.bool true, .slice P2 pn2 pc2]).alloc (.cells #[.bool true, .slice Q2 qn2 qc2] 25); have x4 := BoxN.at_ (d2.alloc (.cells #[.bool true, .slice P2 pn2 pc2] 25)) 25 #[.bool true, .slice Q2 qn2 qc2] (b := d2.heap.size + 1) (by simp); have p2 := (pr2.alloc (.cells #[.bool true, .slice P2 pn2 pc2] 25)).alloc (.cells #[.bool true, .slice Q2 qn2 qc2] 25); have q2 := (qr2.alloc (.cells #[.bool true, .slice P2 pn2 pc2] 25)).alloc (.cells #[.bool true, .slice Q2 qn2 qc2] 25)) | ((with_reducible refine (o6 _).mono ?_); rintro e w6 ⟨A6, n6, c6, l6, rfl, hi6, hr6, hb6⟩) | ((with_reducible refine (o7 _).mono ?_); rintro e w7 ⟨A7, n7, c7, l7, rfl, hi7, hr7, hb7⟩; have z1 : IRd _ _ _ _ := IRd.two (s := false) (s' := true) (hr6.below hb7) hi6.lt (len_lit hi6 hr6 (by decide)) hr7 hi7.lt (len_lit hi7 hr7 (by decide)) 25; have z2 := (Below.refl _ w7).alloc (Nat.le_refl _) (.cells #[.bool false, .slice A6 n6 c6, .bool true, .slice A7 n7 c7] 25))) | (go_at_call 10; first | ((with_reducible refine (v1 A1 n1 c1 l1 A2 n2 c2 l2 _ (hr1.below hb2) hi1 hr2 hi2).mono ?_); rintro e d1 ⟨P1, pn1, pc1, pl1, Q1, qn1, qc1, ql1, rfl, pi1, pr1, qi1, qr1, db1⟩; have K0 := (hb1.trans (hb2.mono hb1.size)).trans (db1.mono (hb1.trans (hb2.mono hb1.size)).size)) | ((with_reducible refine (v2 A3 n3 c3 l3 A4 n4 c4 l4 _ (hr3.below hb4) hi3 hr4 hi4).mono ?_); rintro e d2 ⟨P2, pn2, pc2, pl2, Q2, qn2, qc2, ql2, rfl, pi2, pr2, qi2, qr2, db2⟩; have K5 := K4.trans (db2.mono K4.size))) | (go_at_call 26; (with_reducible refine (v3 A5 n5 c5 l5 _ hr5 hi5).mono ?_); rintro e w8 ⟨rfl, b8⟩; have K8 := K6.trans (b8.mono K6.size); have L8 := hb5.trans (b8.mono hb5.size); obtain ⟨⟨y1, y2⟩, _, _⟩ := (x1.kept K8).facts2; obtain ⟨⟨y3, y4⟩, _, _⟩ := (x2.kept K8).facts2; obtain ⟨⟨y5, y6⟩, _, _⟩ := (x3.kept L8).facts2; obtain ⟨⟨y7, y8⟩, _, _⟩ := (x4.kept L8).facts2) | (go_at_call 12; first | ((with_reducible refine (s1 P1 pn1 pc1 pl1 _ (p1.below K8) pi1).mono ?_); rintro e w9 ⟨rfl, b9⟩; have K9 := K8.trans (b9.mono K8.size); have L9 := L8.trans (b9.mono L8.size); obtain ⟨⟨y1, y2⟩, _, _⟩ := (x1.kept K9).facts2; obtain ⟨⟨y3, y4⟩, _, _⟩ := (x2.kept K9).facts2; obtain ⟨⟨y5, y6⟩, _, _⟩ := (x3.kept L9).facts2; obtain ⟨⟨y7, y8⟩, _, _⟩ := (x4.kept L9).facts2) | ((with_reducible refine (s2 Q1 qn1 qc1 ql1 _ (q1.below K9) qi1).mono ?_); rintro e w10 ⟨rfl, b10⟩; have K10 := K9.trans (b10.mono K9.size); have L10 := L9.trans (b10.mono L9.size); obtain ⟨⟨y1, y2⟩, _, _⟩ := (x1.kept K10).facts2; obtain ⟨⟨y3, y4⟩, _, _⟩ := (x2.kept K10).facts2; obtain ⟨⟨y5, y6⟩, _, _⟩ := (x3.kept L10).facts2; obtain ⟨⟨y7, y8⟩, _, _⟩ := (x4.kept L10).facts2) | ((with_reducible refine (s1 P2 pn2 pc2 pl2 _ (p2.below L10) pi2).mono ?_); rintro e w11 ⟨rfl, b11⟩; have K11 := K10.trans (b11.mono K10.size); have L11 := L10.trans (b11.mono L10.size); obtain ⟨⟨y1, y2⟩, _, _⟩ := (x1.kept K11).facts2; obtain ⟨⟨y3, y4⟩, _, _⟩ := (x2.kept K11).facts2; obtain ⟨⟨y5, y6⟩, _, _⟩ := (x3.kept L11).facts2; obtain ⟨⟨y7, y8⟩, _, _⟩ := (x4.kept L11).facts2) | ((with_reducible refine (s3 Q2 qn2 qc2 ql2 _ (q2.below L11) qi2).mono ?_); rintro e w12 ⟨rfl, b12⟩; have K12 := K11.trans (b12.mono K11.size); have L12 := L11.trans (b12.mono L11.size); obtain ⟨⟨y1, y2⟩, _, _⟩ := (x1.kept K12).facts2; obtain ⟨⟨y3, y4⟩, _, _⟩ := (x2.kept K12).facts2; obtain ⟨⟨y5, y6⟩, _, _⟩ := (x3.kept L12).facts2; obtain ⟨⟨y7, y8⟩, _, _⟩ := (x4.kept L12).facts2) | ((with_reducible refine (s4 A9 n9 c9 l9 _ hr9 hi9).mono ?_); rintro e w13 ⟨rfl, b13⟩)) | (go_at_call 20; (with_reducible refine (v4 A6 n6 c6 l6 A7 n7 c7 l7 _ z1 hi6 hi7).mono ?_); rintro e w9s ⟨A9, n9, c9, l9, rfl, hi9, hr9, b9s⟩) | (go_at_call 22; refine (v5 _).mono ?_; rintro e w14 ⟨rfl, b14⟩))
  go_ret
  refine ⟨rfl, ?_⟩
  have t1 := (K0.alloc K0.size (.cells #[.bool true, .slice P1 pn1 pc1] 25)).alloc (le_alloc K0.size _) (.cells #[.bool false, .slice Q1 qn1 qc1] 25)
  have t2 := t1.trans (K12.mono t1.size)
  have t3 := t2.trans (hb6.mono t2.size)
  have t4 := t3.trans (hb7.mono t3.size)
  have t5 := t4.trans (z2.mono t4.size)
  have t6 := t5.trans (b9s.mono t5.size)
  have t7 := t6.trans (b13.mono t6.size)
  exact t7.trans (b14.mono t7.size)
end Go.Proofs.Wd

namespace Go.Proofs.Wd

theorem sign_cases (d : Int) : d.sign = -1 ∧ d < 0 ∨ d.sign = 0 ∧ d = 0 ∨ d.sign = 1 ∧ 0 < d := by
  rcases Int.lt_trichotomy d 0 with h | h | h
  · exact .inl ⟨Int.sign_eq_neg_one_of_neg h, h⟩
  · subst h; exact .inr (.inl ⟨rfl, rfl⟩)
  · exact .inr (.inr ⟨Int.sign_eq_one_of_pos h, h⟩)
theorem sign_swap (a b : Int) : (b - a).sign = -(a - b).sign := by
  rw [← Int.sign_neg, Int.neg_sub]
theorem sign_shift (a b c : Int) : (a + c - (b + c)).sign = (a - b).sign := by
  congr 1; omega
theorem sign_turn (a b : Int) : (-b - -a).sign = (a - b).sign := by
  congr 1; omega
theorem sign_pass {a b c : Int} (h1 : (a - b).sign ≤ 0) (h2 : (b - c).sign ≤ 0) : (a - c).sign ≤ 0 := by
  rcases sign_cases (a - b) with h | h | h <;> rcases sign_cases (b - c) with k | k | k <;> rcases sign_cases (a - c) with m | m | m <;> omega
end Go.Proofs.Wd

namespace Go.Proofs.Wd
open Go.RowKit Lb
attribute [local go_sem] Oper.semAt_some wide_fn wide_depth

/-- The boxes of three integers in memory. -/
def Box3 (W : World) (b : Nat) (s : Bool) (A : Option Addr) (n c : Nat) (s' : Bool) (A' : Option Addr) (n' c' : Nat) (s'' : Bool) (A'' : Option Addr) (n'' c'' : Nat) : Prop :=
  (W.cell? ⟨b, 0, none⟩ = some (.bool s) ∧ W.cell? ⟨b, 1, none⟩ = some (.slice A n c)) ∧ (W.cell? ⟨b + 1, 0, none⟩ = some (.bool s') ∧ W.cell? ⟨b + 1, 1, none⟩ = some (.slice A' n' c')) ∧
    W.cell? ⟨b + 1 + 1, 0, none⟩ = some (.bool s'') ∧ W.cell? ⟨b + 1 + 1, 1, none⟩ = some (.slice A'' n'' c'')

set_option maxRecDepth 100000 in
set_option maxHeartbeats 2000000 in
theorem order_any (s : Bool) (A : Option Addr) (n c : Nat) (l : List Nat) (s' : Bool) (A' : Option Addr) (n' c' : Nat) (l' : List Nat) (s'' : Bool) (A'' : Option Addr) (n'' c'' : Nat) (l'' : List Nat) (w : World)
    (h : Rd w A n c l) (ht : Lt l) (h' : Rd w A' n' c' l') (ht' : Lt l') (h'' : Rd w A'' n'' c'' l'') (ht'' : Lt l'') :
    Calls Try.prog 4 #[.agg #[.bool s, .slice A n c], .agg #[.bool s', .slice A' n' c'], .agg #[.bool s'', .slice A'' n'' c'']] w fun e w' => e = .returned (.bool true) ∧ Below w.heap.size w w' := by
  have hmix : Try.prog.follows .mixedOrders = true := by kernel_rfl
  obtain ⟨W0, hW0⟩ : ∃ W0, (((w.alloc (.cells #[.bool s, .slice A n c] 25)).alloc (.cells #[.bool s', .slice A' n' c'] 25)).alloc (.cells #[.bool s'', .slice A'' n'' c''] 25)) = W0 := ⟨_, rfl⟩
  have x0 : BoxN W0 w.heap.size 25 #[.bool s, .slice A n c] := by rw [← hW0]; exact ((BoxN.new w _ _).alloc _).alloc _
  have x1 : BoxN W0 (w.heap.size + 1) 25 #[.bool s', .slice A' n' c'] := by rw [← hW0]; exact (BoxN.at_ _ _ _ (by simp)).alloc _
  have x2 : BoxN W0 (w.heap.size + 1 + 1) 25 #[.bool s'', .slice A'' n'' c''] := by rw [← hW0]; exact BoxN.at_ _ _ _ (by simp)
  have hB0 : Below w.heap.size w W0 := by rw [← hW0]; exact (((Below.refl _ w).alloc (Nat.le_refl _) _).alloc (by simp) _).alloc (by simp; omega) _
  have y : Rd W0 A n c l := h.below hB0
  have y' : Rd W0 A' n' c' l' := h'.below hB0
  have y'' : Rd W0 A'' n'' c'' l'' := h''.below hB0
  have bx : ∀ W, Below W0.heap.size W0 W → Box3 W w.heap.size s A n c s' A' n' c' s'' A'' n'' c'' := fun W hb => ⟨(x0.kept hb).facts2.1, (x1.kept hb).facts2.1, (x2.kept hb).facts2.1⟩
  have big := great_v (IS.three y ht (Nat.le_trans h.le h.cap) y' ht' (Nat.le_trans h'.le h'.cap) y'' ht'' (Nat.le_trans h''.le h''.cap) (s := s) (s' := s') (s'' := s'') 25) (Nat.le_refl _) (by simp)
  obtain ⟨g, hg⟩ : ∃ g, greatI [(s, l), (s', l'), (s'', l'')] = g := ⟨_, rfl⟩
  rw [hg] at big
  have hsz : W0.heap.size = w.heap.size + 1 + 1 + 1 := by rw [← hW0]; simp
  rw [hsz] at big
  obtain ⟨⟨a1, a2⟩, ⟨a3, a4⟩, a5, a6⟩ := bx W0 (Below.refl _ _)
  have b1 : Below W0.heap.size W0 (W0.alloc (.cells #[.bool s, .slice A n c, .bool s', .slice A' n' c', .bool s'', .slice A'' n'' c''] 25)) := (Below.refl _ _).alloc (Nat.le_refl _) _
  cases g
  case true =>
    clear hg
    go_enter Try.func4, Try.ntmps4
    go_wp2_with (first | (go_at_call 8; refine big.mono ?_; rintro e w1 ⟨rfl, rfl⟩) | (go_at_call 9; refine (wakes_any _).mono ?_; rintro e w2 ⟨rfl, b2⟩))
    go_ret
    have t1 := hB0.trans (b1.mono hB0.size)
    exact ⟨rfl, t1.trans (b2.mono t1.size)⟩
  case false =>
    obtain ⟨m1, m2, m3⟩ := great_three hg
    clear hg
    simp only at m1 m2 m3
    rw [h.len] at m1; rw [h'.len] at m2; rw [h''.len] at m3
    have ua : ∀ W, Below W0.heap.size W0 W → UV W 60 (.agg #[.bool s, .slice A n c]) (iv s l) := fun W hb => UV.mk (y.below hb) ht m1
    have ub : ∀ W, Below W0.heap.size W0 W → UV W 60 (.agg #[.bool s', .slice A' n' c']) (iv s' l') := fun W hb => UV.mk (y'.below hb) ht' m2
    have uc : ∀ W, Below W0.heap.size W0 W → UV W 60 (.agg #[.bool s'', .slice A'' n'' c'']) (iv s'' l'') := fun W hb => UV.mk (y''.below hb) ht'' m3
    have k1 := fun W hb => cmp_v (ua W hb) (ub W hb) (by omega)
    have k2 := fun W hb => cmp_v (ub W hb) (ua W hb) (by omega)
    have k3 := fun W hb => cmp_v (ub W hb) (uc W hb) (by omega)
    have k4 := fun W hb => cmp_v (ua W hb) (uc W hb) (by omega)
    have k5 := fun W hb => same_v (ua W hb) (ub W hb) (by omega)
    have k6 := fun W hb => sub_v (ua W hb) (ub W hb) (by omega)
    have k7 := fun W hb => neg_v (ua W hb) (by omega)
    have k8 := fun W hb => neg_v (ub W hb) (by omega)
    have e1 := fun (W : World) (v : Value) (hv : IS W 60 v [(s, l), (s'', l'')]) => add_v hv (by omega) (by simp)
    have e2 := fun (W : World) (v : Value) (hv : IS W 60 v [(s', l'), (s'', l'')]) => add_v hv (by omega) (by simp)
    have j1 : isum [(s, l), (s'', l'')] [(s, l), (s'', l'')].length = iv s l + iv s'' l'' := isum_two _ _
    have j2 : isum [(s', l'), (s'', l'')] [(s', l'), (s'', l'')].length = iv s' l' + iv s'' l'' := isum_two _ _
    rw [j1] at e1
    rw [j2] at e2
    clear j1 j2
    have q1 := (ua W0 (Below.refl _ _)).bound
    have q2 := (ub W0 (Below.refl _ _)).bound
    have q3 := (uc W0 (Below.refl _ _)).bound
    have hE1 := fun (W : World) (t : TypeId) (hb : Below W0.heap.size W0 W) => IS.two (s := s) (s' := s'') (y.below hb) ht m1 (y''.below hb) ht'' m3 t
    have hE3 := fun (W : World) (t : TypeId) (hb : Below W0.heap.size W0 W) => IS.two (s := s') (s' := s'') (y'.below hb) ht' m2 (y''.below hb) ht'' m3 t
    have g1 : (iv s l + iv s'' l'').natAbs < BB ^ 61 := by rw [Nat.pow_succ]; unfold BB at *; omega
    have g2 : (iv s' l' + iv s'' l'').natAbs < BB ^ 61 := by rw [Nat.pow_succ]; unfold BB at *; omega
    have g3 : (-iv s l).natAbs < BB ^ 61 := by rw [Nat.pow_succ]; unfold BB at *; omega
    have g4 : (-iv s' l').natAbs < BB ^ 61 := by rw [Nat.pow_succ]; unfold BB at *; omega
    have g5 : (iv s l - iv s' l').natAbs < BB ^ 61 := by rw [Nat.pow_succ]; unfold BB at *; omega
    clear q1 q2 q3
    obtain ⟨va, hva⟩ : ∃ v, iv s l = v := ⟨_, rfl⟩
    obtain ⟨vb, hvb⟩ : ∃ v, iv s' l' = v := ⟨_, rfl⟩
    obtain ⟨vc, hvc⟩ : ∃ v, iv s'' l'' = v := ⟨_, rfl⟩
    rw [hva] at k1 k2 k4 k5 k6 k7 e1 g1 g3 g5
    rw [hvb] at k1 k2 k3 k5 k6 k8 e2 g2 g4 g5
    rw [hvc] at k3 k4 e1 e2 g1 g2
    clear ua ub uc hva hvb hvc
    have k9 := fun (W : World) (v v' : Value) (hv : NV W v (va + vc)) (hv' : NV W v' (vb + vc)) => cmp_v (hv.uv g1) (hv'.uv g2) (by omega)
    have k10 := fun (W : World) (v v' : Value) (hv : NV W v (-vb)) (hv' : NV W v' (-va)) => cmp_v (hv.uv g4) (hv'.uv g3) (by omega)
    have k11 := fun (W : World) (v : Value) (hv : NV W v (va - vb)) => sign_v (hv.uv g5) (by omega)
    rw [sign_shift] at k9
    rw [sign_turn] at k10
    rw [sign_swap va vb] at k2
    have hp := @sign_pass va vb vc
    have hs1 := sign_cases (va - vb)
    have hs2 := sign_cases (vb - vc)
    have hs3 := sign_cases (va - vc)
    obtain ⟨N, hN⟩ : ∃ v, (va - vb).sign = v := ⟨_, rfl⟩
    obtain ⟨M, hM⟩ : ∃ v, (vb - vc).sign = v := ⟨_, rfl⟩
    obtain ⟨L, hL⟩ : ∃ v, (va - vc).sign = v := ⟨_, rfl⟩
    rw [hN] at k1 k2 k5 k9 k10 k11 hp hs1
    rw [hM] at k3 hp hs2
    rw [hL] at k4 hp hs3
    clear hN hM hL
    have n1 : -1 ≤ N := by omega
    have n2 : N ≤ 1 := by omega
    have n3 : -1 ≤ M := by omega
    have n4 : M ≤ 1 := by omega
    have n5 : -1 ≤ L := by omega
    have n6 : L ≤ 1 := by omega
    clear hs1 hs2 hs3
    have o1 : decide (N < -1) = false := decide_eq_false (by omega)
    have o2 : decide (1 < N) = false := decide_eq_false (by omega)
    rcases (by omega : 0 < N ∨ (N ≤ 0 ∧ 0 < M) ∨ (N ≤ 0 ∧ M ≤ 0 ∧ L ≤ 0)) with n7 | ⟨n7, n8⟩ | ⟨n7, n8, n9⟩
    all_goals
      clear hp
      go_enter Try.func4, Try.ntmps4
      go_wp2_with (first | (go_at_call 8; refine big.mono ?_; rintro e w1 ⟨rfl, rfl⟩) | (go_at_call 18; first | ((with_reducible refine (k1 _ b1).mono ?_); rintro e w2 ⟨rfl, zb2⟩; have b2 := b1.trans (zb2.mono b1.size); obtain ⟨⟨a1, a2⟩, ⟨a3, a4⟩, a5, a6⟩ := bx w2 b2) | ((with_reducible refine (k2 _ b2).mono ?_); rintro e w3 ⟨rfl, zb3⟩; have b3 := b2.trans (zb3.mono b2.size); obtain ⟨⟨a1, a2⟩, ⟨a3, a4⟩, a5, a6⟩ := bx w3 b3) | ((with_reducible refine (k3 _ b3).mono ?_); rintro e w4 ⟨rfl, zb4⟩; have b4 := b3.trans (zb4.mono b3.size); obtain ⟨⟨a1, a2⟩, ⟨a3, a4⟩, a5, a6⟩ := bx w4 b4) | ((with_reducible refine (k4 _ b4).mono ?_); rintro e w5 ⟨rfl, zb5⟩; have b5 := b4.trans (zb5.mono b4.size); obtain ⟨⟨a1, a2⟩, ⟨a3, a4⟩, a5, a6⟩ := bx w5 b5)) | (go_at_call 19; first | ((with_reducible refine (k5 _ b5).mono ?_); rintro e w6 ⟨rfl, zb6⟩; have b6 := b5.trans (zb6.mono b5.size); obtain ⟨⟨a1, a2⟩, ⟨a3, a4⟩, a5, a6⟩ := bx w6 b6) | ((with_reducible refine (k5 _ b4).mono ?_); rintro e w6 ⟨rfl, zb6⟩; have b6 := b4.trans (zb6.mono b4.size); obtain ⟨⟨a1, a2⟩, ⟨a3, a4⟩, a5, a6⟩ := bx w6 b6) | ((with_reducible refine (k5 _ b3).mono ?_); rintro e w6 ⟨rfl, zb6⟩; have b6 := b3.trans (zb6.mono b3.size); obtain ⟨⟨a1, a2⟩, ⟨a3, a4⟩, a5, a6⟩ := bx w6 b6)))
      refine (wpIn_wide (n := 0)).1 ?_
      clear a1 a2 a3 a4 a5 a6 k1 k2 k3 k4 k5
      have cf : ∀ W, Below w6.heap.size w6 W → Box3 W w.heap.size s A n c s' A' n' c' s'' A'' n'' c'' ∧ Below w6.heap.size w6 W := fun W hb => ⟨bx W (b6.trans (hb.mono b6.size)), hb⟩
      have up : ∀ W, Below w6.heap.size w6 W → Below W0.heap.size W0 W := fun W hb => b6.trans (hb.mono b6.size)
      refine wpIn_region_C 100 (fun W => Box3 W w.heap.size s A n c s' A' n' c' s'' A'' n'' c'' ∧ Below w6.heap.size w6 W) hmix ?_
      have c0 := cf w6.drew (Below.refl _ w6).drew
      refine takeC (i := 0) (v := ?vv1) (by kernel_rfl) (by kernel_rfl) rfl (by kernel_rfl) (by kernel_rfl) (by kernel_rfl) (fun _ _ _ h => h) c0 ⟨.inl ⟨rfl, ?yy1⟩, fun _ => rfl⟩ ?_
      case yy1 =>
        rintro wx ⟨⟨⟨q1, q2⟩, ⟨q3, q4⟩, q5, q6⟩, _⟩
        go_simp
        first | done | rfl
      refine takeC (i := 1) (v := ?vv2) (by kernel_rfl) (by kernel_rfl) rfl (by kernel_rfl) (by kernel_rfl) (by kernel_rfl) (fun _ _ _ h => h) c0 ⟨.inl ⟨rfl, ?yy2⟩, fun _ => rfl⟩ ?_
      case yy2 =>
        rintro wx ⟨⟨⟨q1, q2⟩, ⟨q3, q4⟩, q5, q6⟩, _⟩
        go_simp
        first | done | rfl
      refine takeC (i := 4) (v := ?vv3) (by kernel_rfl) (by kernel_rfl) rfl (by kernel_rfl) (by kernel_rfl) (by kernel_rfl) (fun _ _ _ h => h) c0 ⟨.inl ⟨rfl, ?yy3⟩, fun _ => rfl⟩ ?_
      case yy3 =>
        rintro wx ⟨⟨⟨q1, q2⟩, ⟨q3, q4⟩, q5, q6⟩, _⟩
        go_simp
        first | done | rfl
      refine takeC (i := 5) (v := ?vv4) (by kernel_rfl) (by kernel_rfl) rfl (by kernel_rfl) (by kernel_rfl) (by kernel_rfl) (fun _ _ _ h => h) c0 ⟨.inl ⟨rfl, ?yy4⟩, fun _ => rfl⟩ ?_
      case yy4 =>
        rintro wx ⟨⟨⟨q1, q2⟩, ⟨q3, q4⟩, q5, q6⟩, _⟩
        go_simp
        first | done | rfl
      refine takeC (i := 9) (v := ?vv5) (by kernel_rfl) (by kernel_rfl) rfl (by kernel_rfl) (by kernel_rfl) (by kernel_rfl) (fun _ _ _ h => h) c0 ⟨.inl ⟨rfl, ?yy5⟩, fun _ => rfl⟩ ?_
      case yy5 =>
        rintro wx ⟨⟨⟨q1, q2⟩, ⟨q3, q4⟩, q5, q6⟩, _⟩
        go_simp
        first | done | rfl
      refine three_orders (i := 2) (j := 3) (k := 6) (some 57) (some 58) (some 61) (by kernel_rfl) (by kernel_rfl) (by kernel_rfl) (by kernel_rfl) (by kernel_rfl) (by decide) (by decide) (by decide) (fun d e => by cases e; simp) (fun d e => by cases e; simp) (fun v W => IS W 60 v [(s, l), (s'', l'')]) (fun v W => NV W v (va + vc)) (fun v W => IS W 60 v [(s', l'), (s'', l'')]) (fun W W' hc hb => cf W' (hc.2.trans (hb.mono hc.2.size))) (fun _ _ _ h hb => h.below hb) (fun _ _ _ h hb => h.below hb) (fun _ _ _ h hb => h.below hb) c0 ?si0 ?si1 ?sk0 ?sk1 ?sk2 ?sj0 ?sj1 ?tail
      case si0 =>
        intro W K hc hK
        refine wpOpIn_step rfl (fun K' hK' => ?_)
        go_simp
        exact hK' _ _ (hK _ _ _ (by kernel_rfl) (hE1 W _ (up W hc.2)) ((Below.refl _ W).alloc (Nat.le_refl _) _))
      case si1 =>
        intro vk W K hc hK
        refine wpOpIn_step rfl (fun K' hK' => ?_)
        go_simp
        exact hK' _ _ (hK _ _ _ (by kernel_rfl) (hE1 W _ (up W hc.2)) ((Below.refl _ W).alloc (Nat.le_refl _) _))
      case sk0 =>
        intro W K hc hK
        refine wpOpIn_step rfl (fun K' hK' => ?_)
        go_simp
        exact hK' _ _ (hK _ _ _ (by kernel_rfl) (hE3 W _ (up W hc.2)) ((Below.refl _ W).alloc (Nat.le_refl _) _))
      case sk1 =>
        intro vi W K hc hK
        refine wpOpIn_step rfl (fun K' hK' => ?_)
        go_simp
        exact hK' _ _ (hK _ _ _ (by kernel_rfl) (hE3 W _ (up W hc.2)) ((Below.refl _ W).alloc (Nat.le_refl _) _))
      case sk2 =>
        intro vi vj W K hc hK
        refine wpOpIn_step rfl (fun K' hK' => ?_)
        go_simp
        exact hK' _ _ (hK _ _ _ (by kernel_rfl) (hE3 W _ (up W hc.2)) ((Below.refl _ W).alloc (Nat.le_refl _) _))
      case sj0 =>
        intro vi W K hc hE hK
        refine wpOpIn_step rfl (fun K' hK' => ?_)
        go_simp
        refine CallsIn.mono (callsIn_wide.2 (e1 W vi hE)) ?_
        rintro e W' ⟨v, rfl, hn, hb⟩
        exact hK' _ _ (hK _ _ _ (by kernel_rfl) hn hb)
      case sj1 =>
        intro vi vk W K hc hE hK
        refine wpOpIn_step rfl (fun K' hK' => ?_)
        go_simp
        refine CallsIn.mono (callsIn_wide.2 (e1 W vi hE)) ?_
        rintro e W' ⟨v, rfl, hn, hb⟩
        exact hK' _ _ (hK _ _ _ (by kernel_rfl) hn hb)
      case tail =>
        intro vi vj vk W hc h1 h2 h3
        have B0 := hc.2
        clear hc h1
        refine oneC (i := 7) (by kernel_rfl) rfl (fun K hK => ?_)
        go_simp
        refine CallsIn.mono (callsIn_wide.2 (e2 W vk h3)) ?_
        rintro e W1 ⟨v7, rfl, h7, z1⟩
        have B1 := B0.trans (z1.mono B0.size)
        have cB1 := cf _ B1
        refine hK _ _ (.inr cB1) ?_
        clear hK K
        refine oneC (i := 8) (by kernel_rfl) rfl (fun K hK => ?_)
        go_simp
        refine CallsIn.mono (callsIn_wide.2 (k9 W1 vj v7 (h2.below z1) h7)) ?_
        rintro e W2 ⟨rfl, z2⟩
        have B2 := B1.trans (z2.mono B1.size)
        have cB2 := cf _ B2
        refine hK _ _ (.inr cB2) ?_
        clear hK K
        refine oneC (i := 10) (by kernel_rfl) rfl (fun K hK => ?_)
        go_simp
        refine hK _ _ (.inr cB2) ?_
        clear hK K
        refine oneC (i := 11) (by kernel_rfl) rfl (fun K hK => ?_)
        go_simp
        refine hK _ _ (.inr cB2) ?_
        clear hK K
        refine takeC (i := 12) (v := ?vv6) (by kernel_rfl) (by kernel_rfl) rfl (by kernel_rfl) (by kernel_rfl) (by kernel_rfl) (fun _ _ _ h => h) cB2 ⟨.inl ⟨rfl, ?yy6⟩, fun _ => rfl⟩ ?_
        case yy6 =>
          rintro wx ⟨⟨⟨q1, q2⟩, ⟨q3, q4⟩, q5, q6⟩, _⟩
          go_simp
          first | done | rfl
        refine takeC (i := 14) (v := ?vv7) (by kernel_rfl) (by kernel_rfl) rfl (by kernel_rfl) (by kernel_rfl) (by kernel_rfl) (fun _ _ _ h => h) cB2 ⟨.inl ⟨rfl, ?yy7⟩, fun _ => rfl⟩ ?_
        case yy7 =>
          rintro wx ⟨⟨⟨q1, q2⟩, ⟨q3, q4⟩, q5, q6⟩, _⟩
          go_simp
          first | done | rfl
        refine takeC (i := 17) (v := ?vv8) (by kernel_rfl) (by kernel_rfl) rfl (by kernel_rfl) (by kernel_rfl) (by kernel_rfl) (fun _ _ _ h => h) cB2 ⟨.inl ⟨rfl, ?yy8⟩, fun _ => rfl⟩ ?_
        case yy8 =>
          rintro wx ⟨⟨⟨q1, q2⟩, ⟨q3, q4⟩, q5, q6⟩, _⟩
          go_simp
          first | done | rfl
        refine oneC (i := 13) (by kernel_rfl) rfl (fun K hK => ?_)
        go_simp
        refine CallsIn.mono (callsIn_wide.2 (k8 W2 (up W2 B2))) ?_
        rintro e W3 ⟨v13, rfl, h13, z3⟩
        have B3 := B2.trans (z3.mono B2.size)
        have cB3 := cf _ B3
        refine hK _ _ (.inr cB3) ?_
        clear hK K
        refine oneC (i := 15) (by kernel_rfl) rfl (fun K hK => ?_)
        go_simp
        refine CallsIn.mono (callsIn_wide.2 (k7 W3 (up W3 B3))) ?_
        rintro e W4 ⟨v15, rfl, h15, z4⟩
        have B4 := B3.trans (z4.mono B3.size)
        have cB4 := cf _ B4
        refine hK _ _ (.inr cB4) ?_
        clear hK K
        refine oneC (i := 16) (by kernel_rfl) rfl (fun K hK => ?_)
        go_simp
        refine CallsIn.mono (callsIn_wide.2 (k10 W4 v13 v15 (h13.below z4) h15)) ?_
        rintro e W5 ⟨rfl, z5⟩
        have B5 := B4.trans (z5.mono B4.size)
        have cB5 := cf _ B5
        refine hK _ _ (.inr cB5) ?_
        clear hK K
        refine oneC (i := 18) (by kernel_rfl) rfl (fun K hK => ?_)
        go_simp
        refine hK _ _ (.inr cB5) ?_
        clear hK K
        refine oneC (i := 19) (by kernel_rfl) rfl (fun K hK => ?_)
        go_simp
        refine hK _ _ (.inr cB5) ?_
        clear hK K
        refine oneC (i := 20) (by kernel_rfl) rfl (fun K hK => ?_)
        go_simp
        refine hK _ _ (.inr cB5) ?_
        clear hK K
        refine takeC (i := 21) (v := ?vv9) (by kernel_rfl) (by kernel_rfl) rfl (by kernel_rfl) (by kernel_rfl) (by kernel_rfl) (fun _ _ _ h => h) cB5 ⟨.inl ⟨rfl, ?yy9⟩, fun _ => rfl⟩ ?_
        case yy9 =>
          rintro wx ⟨⟨⟨q1, q2⟩, ⟨q3, q4⟩, q5, q6⟩, _⟩
          go_simp
          first | done | rfl
        refine takeC (i := 22) (v := ?vv10) (by kernel_rfl) (by kernel_rfl) rfl (by kernel_rfl) (by kernel_rfl) (by kernel_rfl) (fun _ _ _ h => h) cB5 ⟨.inl ⟨rfl, ?yy10⟩, fun _ => rfl⟩ ?_
        case yy10 =>
          rintro wx ⟨⟨⟨q1, q2⟩, ⟨q3, q4⟩, q5, q6⟩, _⟩
          go_simp
          first | done | rfl
        refine takeC (i := 25) (v := ?vv11) (by kernel_rfl) (by kernel_rfl) rfl (by kernel_rfl) (by kernel_rfl) (by kernel_rfl) (fun _ _ _ h => h) cB5 ⟨.inl ⟨rfl, ?yy11⟩, fun _ => rfl⟩ ?_
        case yy11 =>
          rintro wx ⟨⟨⟨q1, q2⟩, ⟨q3, q4⟩, q5, q6⟩, _⟩
          go_simp
          first | done | rfl
        refine oneC (i := 23) (by kernel_rfl) rfl (fun K hK => ?_)
        go_simp
        refine CallsIn.mono (callsIn_wide.2 (k6 W5 (up W5 B5))) ?_
        rintro e W6 ⟨v23, rfl, h23, z6⟩
        have B6 := B5.trans (z6.mono B5.size)
        have cB6 := cf _ B6
        refine hK _ _ (.inr cB6) ?_
        clear hK K
        refine oneC (i := 24) (by kernel_rfl) rfl (fun K hK => ?_)
        go_simp
        refine CallsIn.mono (callsIn_wide.2 (k11 W6 v23 h23)) ?_
        rintro e W7 ⟨rfl, z7⟩
        have B7 := B6.trans (z7.mono B6.size)
        have cB7 := cf _ B7
        refine hK _ _ (.inr cB7) ?_
        clear hK K
        refine oneC (i := 26) (by kernel_rfl) rfl (fun K hK => ?_)
        go_simp
        refine hK _ _ (.inr cB7) ?_
        clear hK K
        refine oneC (i := 27) (by kernel_rfl) rfl (fun K hK => ?_)
        go_simp
        refine hK _ _ (.inr cB7) ?_
        clear hK K
        refine oneC (i := 28) (by kernel_rfl) rfl (fun K hK => ?_)
        go_simp
        refine hK _ _ (.inr cB7) ?_
        clear hK K
        refine oneC (i := 29) (by kernel_rfl) rfl (fun K hK => ?_)
        go_simp
        refine CallsIn.mono (callsIn_wide.2 (wakes_any W7)) ?_
        rintro e W8 ⟨rfl, z8⟩
        have B8 := B7.trans (z8.mono B7.size)
        have cB8 := cf _ B8
        refine hK _ _ (.inr cB8) ?_
        clear hK K
        refine oneC (i := 30) (by kernel_rfl) rfl (fun K hK => ?_)
        go_simp
        refine hK _ _ (.inr cB8) ?_
        clear hK K
        refine oneC (i := 31) (by kernel_rfl) rfl (fun K hK => ?_)
        go_simp
        refine hK _ _ (.inr cB8) ?_
        clear hK K
        refine doneP (by kernel_rfl) ?_
        go_wp2
        go_ret
        have t1 := hB0.trans ((up W8 B8).mono hB0.size)
        exact ⟨rfl, t1⟩
end Go.Proofs.Wd
