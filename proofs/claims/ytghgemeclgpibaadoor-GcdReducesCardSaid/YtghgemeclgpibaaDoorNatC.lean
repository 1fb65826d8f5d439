/- Walks of package nat: Sub, Add. -/
import Derived.Test.YtghgemeclgpibaaDoorNatB
import Derived.Deep.DeepMust
namespace Go.Proofs.Wd
open Go.RowKit Lb
attribute [local go_sem] Oper.semAt_some wide_fn wide_depth

/-- What the loop of Sub keeps. -/
def SubI (w : World) (l l' : List Nat) (k : Nat) (W : World) : Prop :=
  ∃ v lo, ∃ u : Nat, Boxed W w.heap.size 23 v ∧ Own32 W (w.heap.size + 4) 49 v lo ∧ lo.length = k ∧ Lt lo ∧ Boxed W (w.heap.size + 1) 62 (.int .u64 u) ∧ u ≤ 1 ∧
    sm (lm l) k + u * BB ^ k = val lo + sm (lm l') k ∧ Below w.heap.size w W ∧ w.heap.size + 4 ≤ W.heap.size

theorem subI_own (w : World) (l l' : List Nat) {C : Nat} (hC : w.heap.size ≤ C) : OwnFrom C (SubI w l l') := by
  rintro k W W' row ⟨v, lo, u, hv, hown, hlk, hlt, hu, hu1, heq, hB, h4⟩ hg hr
  exact ⟨v, lo, u, boxed_abide hv hg hr, own_abide hown hg hr, hlk, hlt, boxed_abide hu hg hr, hu1, heq, below_abide hB hg (Nat.le_refl _) hC hr, Nat.le_trans h4 hg.size⟩

theorem sub_step (x y u : Nat) (hx : x < 4294967296) (hy : y < 4294967296) (hu : u ≤ 1) :
    ∃ d z u' : Nat, IntKind.u64.wrap (IntKind.u64.wrap ((x : Int) - (y : Int)) - (u : Int)) = (d : Int) ∧ (d : Int) % 4294967296 = (z : Int) ∧ (d : Int) / 9223372036854775808 = (u' : Int) ∧ z < 4294967296 ∧ u' ≤ 1 ∧ x + u' * 4294967296 = z + y + u := by
  have e : IntKind.u64.wrap (IntKind.u64.wrap ((x : Int) - (y : Int)) - (u : Int)) = ((x : Int) - y - u) % 18446744073709551616 := by
    rw [IntKind.wrap_u64, IntKind.wrap_u64]; omega
  by_cases h : y + u ≤ x
  · exact ⟨x - y - u, x - y - u, 0, by rw [e]; omega, by omega, by omega, by omega, by omega, by omega⟩
  · exact ⟨18446744073709551616 + x - y - u, 4294967296 + x - y - u, 1, by rw [e]; omega, by omega, by omega, by omega, by omega, by omega⟩

set_option maxRecDepth 100000 in
set_option maxHeartbeats 1000000 in
theorem sub_any (A : Option Addr) (n c : Nat) (l : List Nat) (A' : Option Addr) (n' c' : Nat) (l' : List Nat) (w : World) (h : Rd w A n c l) (h' : Rd w A' n' c' l') (ht : Lt l) (ht' : Lt l') (hge : val l' ≤ val l) (hn : n ≤ 1099511627776) (hn' : n' ≤ 1099511627776) :
    Calls Tryd.prog 111 #[.slice A n c, .slice A' n' c'] w fun e w' => ∃ A1 n1 c1 l1, e = .returned (.tuple #[.slice A1 n1 c1, .int .i64 0]) ∧ Is l1 (val l - val l') ∧ Rd w' A1 n1 c1 l1 ∧ Below w.heap.size w w' := by
  have hle := h.le; have hcap := h.cap; have hle' := h'.le; have hcap' := h'.cap
  have hcmp : decide (cmpOf (val l) (val l') < 0) = false := by
    unfold cmpOf
    rw [if_neg (by omega)]
    split <;> simp
  obtain ⟨N, hmx, hN⟩ : ∃ N, ((n < n' ∧ n' = N) ∨ (¬ n < n' ∧ n = N)) ∧ n ≤ N ∧ n' ≤ N ∧ N ≤ 1099511627776 := by
    by_cases hh : n < n'
    · exact ⟨n', .inl ⟨hh, rfl⟩, by omega⟩
    · exact ⟨n, .inr ⟨hh, rfl⟩, by omega⟩
  refine calls_marks Tryd.func111 rfl ?_
  simp only [Tryd.ntmps111, List.size_toArray, List.length_cons, List.length_nil, Nat.reduceAdd, Nat.reduceSub, Array.replicate_succ, Array.replicate_zero, List.push_toArray, List.append_toArray, List.nil_append, List.cons_append]
  go_wp2_with (first | (go_at_call 82; refine (cmp_any A n c l A' n' c' l' _ h h' ht ht').mono ?_; rintro e w1 ⟨rfl, rfl⟩) | (go_at_call 103; refine (pairs_any A n c A' n' c' _).mono ?_; rintro e w1 ⟨rfl, rfl⟩))
  obtain ⟨W0, hW0⟩ : ∃ W0, ((((w.alloc (.cells #[.slice none 0 0] 23)).alloc (.cells #[.int .u64 0] 62)).alloc (.cells #[.slice A n c] 23)).alloc (.cells #[.slice A' n' c'] 23)) = W0 := ⟨_, rfl⟩
  have hsz : W0.heap.size = w.heap.size + 4 := by rw [← hW0]; simp
  have hB0 : Below w.heap.size w W0 := by rw [← hW0]; exact ((((Below.refl _ w).alloc (Nat.le_refl _) _).alloc (by simp) _).alloc (by simp; omega) _).alloc (by simp; omega) _
  have bx0 : Boxed W0 w.heap.size 23 (.slice none 0 0) := by rw [← hW0]; exact (((Boxed.new w _ _).alloc _).alloc _).alloc _
  have bx1 : Boxed W0 (w.heap.size + 1) 62 (.int .u64 0) := by
    rw [← hW0]; have := Boxed.new (w.alloc (.cells #[.slice none 0 0] 23)) 62 (.int .u64 0); rw [World.size_alloc] at this; exact (this.alloc _).alloc _
  have bx2 : Boxed W0 (w.heap.size + 1 + 1) 23 (.slice A n c) := by
    rw [← hW0]; have := Boxed.new ((w.alloc (.cells #[.slice none 0 0] 23)).alloc (.cells #[.int .u64 0] 62)) 23 (.slice A n c); rw [World.size_alloc, World.size_alloc] at this; exact this.alloc _
  have bx3 : Boxed W0 (w.heap.size + 1 + 1 + 1) 23 (.slice A' n' c') := by
    rw [← hW0]; have := Boxed.new (((w.alloc (.cells #[.slice none 0 0] 23)).alloc (.cells #[.int .u64 0] 62)).alloc (.cells #[.slice A n c] 23)) 23 (.slice A' n' c'); rw [World.size_alloc, World.size_alloc, World.size_alloc] at this; exact this
  rw [hW0]
  clear hW0
  refine wp_range (gf := 115) rfl (enters_of Tryd.func115 (by kernel_rfl) rfl) (pairs1_iter A n c l A' n' c' l' (w.heap.size + 1 + 1) (w.heap.size + 1 + 1 + 1) N W0 (h.below hB0) (h'.below hB0) ht ht' bx2.cell bx3.cell hmx (S := fun b => b < w.heap.size ∨ b = w.heap.size + 2 ∨ b = w.heap.size + 3) (fun b hb => by omega) (.inr (.inl rfl)) (.inr (.inr rfl)) (fun b o hn e => .inl (h.in_ b o hn e)) (fun b o hn e => .inl (h'.in_ b o hn e))) (fun _ => rfl) KeepS.trans (keepS_b (fun b hb => by omega))
    (SubI w l l') ?hI ?hF Mk.keeps (fun _ _ _ _ _ _ _ _ => trivial) ?h0
    (fun k => { tmps := #[.slice A n c, .slice A' n' c', undef, undef, .slice none 0 0, .int .i64 0, .pointer (some ⟨w.heap.size, 0, none⟩), .pointer (some ⟨w.heap.size + 1, 0, none⟩), .int .u64 (lm l k : Nat), .int .u64 (lm l' k : Nat), undef, .slice A n c, .slice A' n' c', .int .i64 (cmpOf (val l) (val l')), .bool false, .slice A n c, .slice A' n' c', .func (.func 115) #[] #[.pointer (some ⟨w.heap.size + 1 + 1, 0, none⟩), .pointer (some ⟨w.heap.size + 1 + 1 + 1, 0, none⟩)], .int .u64 (lm l k : Nat), .int .u64 (lm l' k : Nat), undef, undef, undef, undef, undef, undef, undef, undef, undef, undef, undef, undef, undef, undef], defers := [] }) ?assign ?body ?done
  case hI => exact subI_own w l l' (by omega)
  case hF => exact abide_mk (subI_own w l l' (Nat.le_refl _))
  case h0 => exact ⟨_, [], 0, bx0, Own32.none_ _ _ _, rfl, Lt_nil, bx1, by omega, by simp [sm], hB0, by omega⟩
  case assign =>
    intro lp k W K hK
    gi_wp2
    exact hK
  case body =>
    rintro lp k W hk ⟨v, lo, u, hv, hown, hlk, hlt, hu, hu1, heq, hB, hW4⟩
    have hcv := hv.cell; have hfv := hv.frozen; have hcu := hu.cell; have hfu := hu.frozen
    have x1 := lm_BB ht k; have x2 := lm_BB ht' k
    simp only [BB] at x1 x2
    obtain ⟨d, z, u', hd, hz, hu', hz1, hu1', hstep⟩ := sub_step (lm l k) (lm l' k) u x1 x2 hu1
    have HS := hid hstep
    have hl1 : (lo ++ [z]).length = k + 1 := by simp; omega
    have hsW : w.heap.size + 4 ≤ W.heap.size := hW4
    have hSS : ∀ b, (b < w.heap.size ∨ b = w.heap.size + 2 ∨ b = w.heap.size + 3) → b < W.heap.size ∧ some b ≠ v.ownBlock := fun b hb => ⟨by omega, hown.not_in (by omega)⟩
    have hSo : ¬ (w.heap.size < w.heap.size ∨ w.heap.size = w.heap.size + 2 ∨ w.heap.size = w.heap.size + 3) := by omega
    have hte : 23 ≠ 49 := by decide
    have hte' : 62 ≠ 49 := by decide
    have hs1 : lo.length + [z].length ≤ 17592186044416 := by simp; omega
    clear hstep
    gi_wp2_with (gi_at_builtin; go_must (refine wpListIn_append_rd rfl _ _ 23 49 rfl u32_under u32_info (w.heap.size + 4) v lo rfl (Own32.alloc hown _) _ 1 1 [z] rfl (Rd.one _ z 49) hs1 (le_alloc hsW _) ?_; intro v1 w1 hown1 hg1 hat1; obtain ⟨A1, c1, rfl⟩ := hown1.form' hl1; obtain ⟨hv1, hv2, hr2, hk2, hb2⟩ := append32 hte hv hown hB.size (Nat.le_refl _) (Nat.le_add_right _ 4) hown1 hg1; have hk3 := keepS32 (v' := .slice A1 (k + 1) c1) hg1 hSS hSo; have hc1 := hv1.cell; have hf1 := hv1.frozen; have hu2 := beside32 hte' hu hown hg1; have hc2 := hu2.cell; have hf2 := hu2.frozen))
    have hu3 := hu2.other (Nat.succ_ne_self w.heap.size) (.slice A1 (k + 1) c1)
    refine ⟨(hk2.trans (KeepsOthers.setCell _ _ _)).from _, hk3.setCell (p := ⟨w.heap.size + 1, 0, none⟩) (by simp) _, _, lo ++ [z], u', hv2.other (by omega) _, hr2.other hu3 hte' _, hl1, Lt_snoc hlt hz1, hu3.set _, hu1', ?_, (hB.trans hb2).setCell (p := ⟨w.heap.size + 1, 0, none⟩) (by simp) _, ?_⟩
    · rw [val_snoc, hlk]
      simp only [sm, Nat.pow_succ]
      exact sub_math heq HS.out
    · exact Nat.le_trans hW4 ((hb2.setCell (p := ⟨w.heap.size + 1, 0, none⟩) (by simp) _).size)
  case done =>
    rintro D W hD ⟨v, lo, u, hv, hown, hlk, hlt, hu, hu1, heq, hB, hW4⟩ _ hd
    obtain ⟨A1, c1, rfl⟩ := hown.form' hlk
    have hcv := hv.cell; have hfv := hv.frozen
    go_wp2_with (go_at_call 50; refine (trim_any _ _ _ _ _ hown.rd hlt (by omega)).mono ?_; rintro e w1 ⟨A2, n2, c2, l2, rfl, hi2, hr2, hb2⟩)
    have hd1 : w1.heap[D]? = some (.deferred (some [])) := (hb2.block D (Array.getElem?_eq_some_iff.1 hd).1).trans hd
    have e1 := val_eq (l := l) (n := N) (by rw [h.len]; omega)
    have e2 := val_eq (l := l') (n := N) (by rw [h'.len]; omega)
    have e3 := val_lt hlt
    rw [hlk] at e3
    rw [e1, e2] at heq
    have hu0 : u = 0 := by
      rcases Nat.lt_or_ge 0 u with h0 | h0
      · have : u = 1 := by omega
        subst this
        omega
      · omega
    subst hu0
    have hv2 : val lo = val l - val l' := by omega
    rw [hv2] at hi2
    refine ⟨by simp, .inl ⟨_, _, rfl, run_takeDeferred hd1, ?_⟩⟩
    exact ⟨_, results_tmp2 rfl _ _ _, A2, n2, c2, l2, rfl, hi2, hr2.other _ hd1 rfl, below_other (hB.trans (hb2.mono hB.size)) _ (Nat.le_trans hB.size hb2.size) (by omega)⟩
end Go.Proofs.Wd
