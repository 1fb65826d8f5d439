/- Walks of the reference's layer 1: two, Add, Sub. -/
import Derived.Test.YtghgemeclgpibaaDoorRefA
namespace Go.Proofs.Wd
open Go.RowKit Lb

/-- What the loop of two keeps. -/
def TwoI (w : World) (l l' : List Nat) (N : Nat) (v o i : Value) (W : World) : Prop :=
  ∃ (k u : Nat) (A : Option Addr) (c : Nat) (lo : List Nat), k ≤ N ∧ i = .int .i64 k ∧ o = .int .u64 u ∧ v = .slice A k c ∧ u ≤ 1 ∧ Own32 W w.heap.size 49 (.slice A k c) lo ∧ lo.length = k ∧ Lt lo ∧
    val lo + u * BB ^ k = sm (lm l) k + sm (lm l') k ∧ Below w.heap.size w W

theorem two_step (x y u : Nat) (hx : x < 4294967296) (hy : y < 4294967296) (hu : u ≤ 1) :
    ∃ d z u' : Nat, (x : Int) + (y : Int) + (u : Int) = (d : Int) ∧ (d : Int) % 4294967296 = (z : Int) ∧ (d : Int) / 4294967296 = (u' : Int) ∧ z < 4294967296 ∧ u' ≤ 1 ∧ d ≤ 8589934591 ∧ x + y + u = z + u' * 4294967296 :=
  ⟨x + y + u, (x + y + u) % 4294967296, (x + y + u) / 4294967296, by omega, by omega, by omega, by omega, by omega, by omega, by omega⟩

set_option maxRecDepth 100000 in
set_option maxHeartbeats 1000000 in
theorem two_any (A : Option Addr) (n c : Nat) (l : List Nat) (A' : Option Addr) (n' c' : Nat) (l' : List Nat) (w : World) (h : Rd w A n c l) (h' : Rd w A' n' c' l') (ht : Lt l) (ht' : Lt l') (hn : n ≤ 137438953472) (hn' : n' ≤ 137438953472) :
    Calls Tryd.prog 58 #[.slice A n c, .slice A' n' c'] w (RetNat w (val l + val l')) := by
  have hle := h.le; have hcap := h.cap; have hle' := h'.le; have hcap' := h'.cap
  obtain ⟨N, HN⟩ : ∃ N, Hid (((n < n' ∧ N = n') ∨ (¬ n < n' ∧ N = n)) ∧ n ≤ N ∧ n' ≤ N ∧ N ≤ 137438953472 ∧ l.length = n ∧ l'.length = n') := by
    by_cases hh : n < n'
    · exact ⟨n', hid ⟨.inl ⟨hh, rfl⟩, by omega, by omega, by omega, h.len, h'.len⟩⟩
    · exact ⟨n, hid ⟨.inr ⟨hh, rfl⟩, by omega, by omega, by omega, h.len, h'.len⟩⟩
  by_cases hnn : n < n'
  all_goals
    go_enter Tryd.func58, Tryd.ntmps58
    go_wp2
    go_loopw [5, 6, 7] (TwoI w l l' N) (fun _ _ i _ => N - (intOf i).toNat)
    case atStart => exact ⟨0, 0, none, 0, [], Nat.zero_le _, rfl, rfl, rfl, by omega, Own32.none_ _ _ _, rfl, Lt_nil, by simp [sm], Below.refl _ _⟩
    case round =>
      obtain ⟨k, u, Ao, co, lo, hk, rfl, rfl, rfl, hu1, hown, hlk, hlt, heq, hB⟩ := hrel
      have HQ := hid heq
      clear heq
      have hr := h.below hB; have hr' := h'.below hB
      have x1 := lm_BB ht k; have x2 := lm_BB ht' k
      simp only [BB] at x1 x2
      by_cases h0 : k < N
      · have hkn : k < n ∨ k < n' := by have := HN.out; omega
        have hkm : k < 137438953472 := by have := HN.out; omega
        obtain ⟨d, z, u', hd, hz, hu', hz1, hu1', hd1, hstep⟩ := two_step (lm l k) (lm l' k) u x1 x2 hu1
        have HS := hid hstep
        clear hstep
        have hs1 : lo.length + [z].length ≤ 17592186044416 := by simp; omega
        have hl1 : (lo ++ [z]).length = k + 1 := by simp; omega
        go_wp2_with (first | (go_at_call 57; first | ((with_reducible refine (rlimb_any A _ c l _ _ hr ht (Int.natCast_nonneg k)).mono ?_); rintro e w1 ⟨rfl, rfl⟩) | ((with_reducible refine (rlimb_any A' _ c' l' _ _ hr' ht' (Int.natCast_nonneg k)).mono ?_); rintro e w1 ⟨rfl, rfl⟩)) | (at_builtin; refine wpList_append_rd rfl _ _ 23 49 rfl u32_under u32_info w.heap.size _ lo rfl (Own32.alloc hown _) _ 1 1 [z] rfl (Rd.one _ z 49) hs1 (le_alloc hB.size _) ?_; intro v1 w1 hown1 hg1 hat1; obtain ⟨A1, c1, rfl⟩ := hown1.form' hl1))
        go_roundw
        case rel => exact ⟨k + 1, u', A1, c1, lo ++ [z], by omega, by go_num, rfl, rfl, hu1', hown1, hl1, Lt_snoc hlt hz1, by rw [val_snoc, hlk]; simp only [sm, Nat.pow_succ]; exact add_math HQ.out HS.out, Own32.grown (hB.alloc hB.size _) (Own32.alloc hown _) hg1 (Nat.le_refl _) (le_alloc hB.size _)⟩
        case measure => simp [intOf]; omega
      · obtain rfl : k = N := by omega
        have hkn : ¬ k < n ∧ ¬ k < n' := by have := HN.out; omega
        obtain ⟨hkn1, hkn2⟩ := hkn
        have heu : (u : Int) % 4294967296 = u := by omega
        have hkm : k ≤ 137438953472 := by have := HN.out; omega
        have hs1 : lo.length + [u].length ≤ 17592186044416 := by simp; omega
        have hl1 : (lo ++ [u]).length = k + 1 := by simp; omega
        have hl2 : Lt (lo ++ [u]) := Lt_snoc hlt (by unfold BB; omega)
        have hk1 : k + 1 ≤ 1099511627776 := by omega
        go_wp2_with (first | (at_builtin; refine wpList_append_rd rfl _ _ 23 49 rfl u32_under u32_info w.heap.size _ lo rfl (Own32.alloc hown _) _ 1 1 [u] rfl (Rd.one _ u 49) hs1 (le_alloc hB.size _) ?_; intro v1 w1 hown1 hg1 hat1; obtain ⟨A1, c1, rfl⟩ := hown1.form' hl1) | (go_at_call 15; refine (rtrim_any _ _ _ _ _ hown1.rd hl2 hk1).mono ?_; rintro e w2 ⟨A2, n2, c2, l2, rfl, hi2, hr2, hb2⟩))
        go_ret
        have e1 := val_eq (l := l) (n := k) (by have := HN.out; omega)
        have e2 := val_eq (l := l') (n := k) (by have := HN.out; omega)
        have hv : val (lo ++ [u]) = val l + val l' := by rw [val_snoc, hlk, HQ.out, e1, e2]
        rw [hv] at hi2
        have hB1 := Own32.grown (hB.alloc hB.size _) (Own32.alloc hown _) hg1 (Nat.le_refl _) (le_alloc hB.size _)
        exact ⟨A2, n2, c2, l2, rfl, hi2, hr2, hB1.trans (hb2.mono hB1.size)⟩

/-- What the loop of Sub keeps. -/
def RsubI (w : World) (l l' : List Nat) (N : Nat) (v o i : Value) (W : World) : Prop :=
  ∃ (k u : Nat) (A : Option Addr) (c : Nat) (lo : List Nat), k ≤ N ∧ i = .int .i64 k ∧ o = .int .u64 u ∧ v = .slice A k c ∧ u ≤ 1 ∧ Own32 W w.heap.size 49 (.slice A k c) lo ∧ lo.length = k ∧ Lt lo ∧
    sm (lm l) k + u * BB ^ k = val lo + sm (lm l') k ∧ Below w.heap.size w W

theorem rsub_step (x y u : Nat) (hx : x < 4294967296) (hy : y < 4294967296) (hu : u ≤ 1) :
    ∃ d z t u' : Nat, (x : Int) + 4294967296 - (y : Int) - (u : Int) = (d : Int) ∧ (d : Int) % 4294967296 = (z : Int) ∧ (d : Int) / 4294967296 = (t : Int) ∧ (1 : Int) - (t : Int) = (u' : Int) ∧ z < 4294967296 ∧ u' ≤ 1 ∧ d ≤ 8589934591 ∧ t ≤ 1 ∧ x + u' * 4294967296 = z + y + u := by
  refine ⟨x + 4294967296 - y - u, (x + 4294967296 - y - u) % 4294967296, (x + 4294967296 - y - u) / 4294967296, 1 - (x + 4294967296 - y - u) / 4294967296, ?_, ?_, ?_, ?_, ?_, ?_, ?_, ?_, ?_⟩ <;> omega

/-- nothing, and what is the matter. -/
def nilNat : Value := .slice none 0 0

set_option maxRecDepth 100000 in
set_option maxHeartbeats 1000000 in
theorem rsub_any (A : Option Addr) (n c : Nat) (l : List Nat) (A' : Option Addr) (n' c' : Nat) (l' : List Nat) (w : World) (h : Rd w A n c l) (h' : Rd w A' n' c' l') (ht : Lt l) (ht' : Lt l') (hge : val l' ≤ val l) (hn : n ≤ 137438953472) :
    Calls Tryd.prog 56 #[.slice A n c, .slice A' n' c'] w fun e w' => ∃ A1 n1 c1 l1, e = .returned (.tuple #[.slice A1 n1 c1, .int .i64 0]) ∧ Is l1 (val l - val l') ∧ Rd w' A1 n1 c1 l1 ∧ Below w.heap.size w w' := by
  have hle := h.le; have hcap := h.cap; have hle' := h'.le; have hcap' := h'.cap
  have hcmp : decide (cmpOf (val l) (val l') < 0) = false := by
    unfold cmpOf
    rw [if_neg (by omega)]
    split <;> simp
  have HN : Hid (l.length = n ∧ sm (lm l') n = val l') := hid ⟨h.len, val_low (Nat.lt_of_le_of_lt hge (by have := val_lt ht; rwa [h.len] at this))⟩
  have HG := hid hge
  clear hge
  go_enter Tryd.func56, Tryd.ntmps56
  go_wp2_with (go_at_call 20; refine (rcmp_any A n c l A' n' c' l' _ h h' ht ht').mono ?_; rintro e w1 ⟨rfl, rfl⟩)
  go_loopw [6, 7, 8] (RsubI w l l' n) (fun _ _ i _ => n - (intOf i).toNat)
  case atStart => exact ⟨0, 0, none, 0, [], Nat.zero_le _, rfl, rfl, rfl, by omega, Own32.none_ _ _ _, rfl, Lt_nil, by simp [sm], Below.refl _ _⟩
  case round =>
    obtain ⟨k, u, Ao, co, lo, hk, rfl, rfl, rfl, hu1, hown, hlk, hlt, heq, hB⟩ := hrel
    have HQ := hid heq
    clear heq
    have hr := h.below hB; have hr' := h'.below hB
    have x1 := lm_BB ht k; have x2 := lm_BB ht' k
    simp only [BB] at x1 x2
    by_cases h0 : k < n
    · obtain ⟨d, z, t, u', hd, hz, htt, hu', hz1, hu1', hd1, ht1, hstep⟩ := rsub_step (lm l k) (lm l' k) u x1 x2 hu1
      have HS := hid hstep
      clear hstep
      have hs1 : lo.length + [z].length ≤ 17592186044416 := by simp; omega
      have hl1 : (lo ++ [z]).length = k + 1 := by simp; omega
      go_wp2_with (first | (go_at_call 57; first | ((with_reducible refine (rlimb_any A _ c l _ _ hr ht (Int.natCast_nonneg k)).mono ?_); rintro e w1 ⟨rfl, rfl⟩) | ((with_reducible refine (rlimb_any A' _ c' l' _ _ hr' ht' (Int.natCast_nonneg k)).mono ?_); rintro e w1 ⟨rfl, rfl⟩)) | (at_builtin; refine wpList_append_rd rfl _ _ 23 49 rfl u32_under u32_info w.heap.size _ lo rfl (Own32.alloc hown _) _ 1 1 [z] rfl (Rd.one _ z 49) hs1 (le_alloc hB.size _) ?_; intro v1 w1 hown1 hg1 hat1; obtain ⟨A1, c1, rfl⟩ := hown1.form' hl1))
      go_roundw
      case rel => exact ⟨k + 1, u', A1, c1, lo ++ [z], by omega, by go_num, rfl, rfl, hu1', hown1, hl1, Lt_snoc hlt hz1, by rw [val_snoc, hlk]; simp only [sm, Nat.pow_succ]; exact sub_math HQ.out HS.out, Own32.grown (hB.alloc hB.size _) (Own32.alloc hown _) hg1 (Nat.le_refl _) (le_alloc hB.size _)⟩
      case measure => simp [intOf]; omega
    · obtain rfl : k = n := by omega
      have hk1 : k ≤ 1099511627776 := by omega
      go_wp2_with (go_at_call 15; refine (rtrim_any _ _ _ _ _ hown.rd hlt hk1).mono ?_; rintro e w2 ⟨A2, n2, c2, l2, rfl, hi2, hr2, hb2⟩)
      go_ret2
      have e1 := val_eq (l := l) (n := k) (by have := HN.out; omega)
      have e2 := HN.out.2
      have e3 := val_lt hlt
      have e4 := HQ.out
      have e5 := HG.out
      rw [hlk] at e3
      rw [e1, e2] at e4
      have hu0 : u = 0 := by
        rcases Nat.lt_or_ge 0 u with h0 | h0
        · have : u = 1 := by omega
          subst this
          omega
        · omega
      subst hu0
      have hv2 : val lo = val l - val l' := by omega
      rw [hv2] at hi2
      exact ⟨A2, n2, c2, l2, rfl, hi2, hr2, hB.trans (hb2.mono hB.size)⟩

set_option maxHeartbeats 400000 in
theorem rsub_less (A : Option Addr) (n c : Nat) (l : List Nat) (A' : Option Addr) (n' c' : Nat) (l' : List Nat) (w : World) (h : Rd w A n c l) (h' : Rd w A' n' c' l') (ht : Lt l) (ht' : Lt l') (hlt : val l < val l') :
    Calls Tryd.prog 56 #[.slice A n c, .slice A' n' c'] w fun e w' => e = .returned (.tuple #[.slice none 0 0, .int .i64 10]) ∧ w = w' := by
  have hcmp : decide (cmpOf (val l) (val l') < 0) = true := by rw [cmpOf_lt hlt]; rfl
  go_enter Tryd.func56, Tryd.ntmps56
  go_wp2_with (go_at_call 20; refine (rcmp_any A n c l A' n' c' l' _ h h' ht ht').mono ?_; rintro e w1 ⟨rfl, rfl⟩)
  go_ret2
  exact ⟨rfl, rfl⟩

/-- A bound on lengths. -/
def LIM : Nat := 68719476736
/-- What the loop of Add keeps. -/
def RaddI (w : World) (ls : List (List Nat)) (n : Nat) (v i : Value) (W : World) : Prop :=
  ∃ (k : Nat) (A : Option Addr) (m c : Nat) (lo : List Nat), k ≤ n ∧ i = .int .i64 k ∧ v = .slice A m c ∧ Rd W A m c lo ∧ Lt lo ∧ val lo = sumTo ls k ∧ m ≤ 68719476736 + k ∧ Below w.heap.size w W

theorem sumTo_lt {ls : List (List Nat)} {n b : Nat} (h : ∀ l, l ∈ ls → val l < b) (hn : n ≤ ls.length) : sumTo ls n ≤ n * b := by
  induction n with
  | zero => rw [sumTo_zero]; omega
  | succ n ih =>
    have hl : ls[n]? = some ls[n] := List.getElem?_eq_getElem (by omega)
    rw [sumTo_succ hl, Nat.add_mul]
    have := h _ (List.getElem_mem (l := ls) (n := n) (by omega))
    have := ih (by omega)
    omega

set_option maxHeartbeats 400000 in
theorem radd_any (A : Option Addr) (n c : Nat) (ls : List (List Nat)) (w : World) (h : Rds w A n ls) (hn : n ≤ 1000) :
    Calls Tryd.prog 21 #[.slice A n c] w (RetNat w (ls.map val).sum) := by
  have HL : Hid (ls.length = n) := hid h.len
  have HT : Hid (∀ l, l ∈ ls → val l < BB ^ LIM) := hid fun l hl => by
    obtain ⟨i, hi, rfl⟩ := List.getElem_of_mem hl
    obtain ⟨b, o, Ai, ni, ci, li, _, _, h1, h2, h3, h4⟩ := h.cells i (by rw [← h.len]; exact hi)
    rw [List.getElem?_eq_getElem hi] at h1
    injection h1 with h1
    rw [h1]
    exact Nat.lt_of_lt_of_le (val_lt h3) (Nat.pow_le_pow_right BB_pos (by rw [h2.len]; exact h4))
  go_enter Tryd.func21, Tryd.ntmps21
  go_wp2
  go_loopw [3, 4] (RaddI w ls n) (fun _ i _ => n - (intOf i).toNat)
  case atStart => exact ⟨0, none, 0, 0, [], Nat.zero_le _, rfl, rfl, Rd.nil_ _, Lt_nil, by rw [sumTo_zero]; rfl, by omega, Below.refl _ _⟩
  case round =>
    obtain ⟨k, Ao, m, co, lo, hk, rfl, rfl, hr, hlt, hv, hm, hB⟩ := hrel
    have HV := hid hv
    clear hv
    by_cases h0 : k < n
    · obtain ⟨b, o, Ai, ni, ci, la, rfl, hcell, hla, hra, hta, hni⟩ := h.cells k h0
      have hcW := (hB.cell (p := ⟨b, o + k, none⟩) (lt_of_cell hcell)).trans hcell
      have hra1 := hra.below hB
      have HA := hid hla
      clear hla
      have hm1 : m ≤ 137438953472 := by omega
      have hni1 : ni ≤ 137438953472 := by omega
      go_wp2_with (go_at_call 58; refine (two_any Ao m co lo Ai ni ci la _ hr hra1 hlt hta hm1 hni1).mono ?_; rintro e w2 ⟨A2, n2, c2, l2, rfl, hi2, hr2, hb2⟩)
      have hsum : val lo + val la = sumTo ls (k + 1) := by rw [sumTo_succ HA.out, HV.out]
      have hlen : n2 ≤ 68719476736 + (k + 1) := by
        rw [← hr2.len]
        refine hi2.len ?_
        rw [hsum]
        have h1 := sumTo_lt HT.out (show k + 1 ≤ ls.length by rw [HL.out]; omega)
        have h2 : k + 1 < BB ^ (k + 1) := Nat.lt_pow_self (by decide)
        rw [show 68719476736 + (k + 1) = LIM + (k + 1) from rfl, Nat.pow_add, Nat.mul_comm (BB ^ LIM)]
        exact Nat.lt_of_le_of_lt h1 ((Nat.mul_lt_mul_right (pow_pos' _)).2 h2)
      go_roundw
      case rel => exact ⟨k + 1, A2, n2, c2, l2, by omega, by go_num, rfl, hr2, hi2.lt, by rw [hi2.val, hsum], hlen, hB.trans (hb2.mono hB.size)⟩
      case measure => simp [intOf]; omega
    · obtain rfl : k = n := by omega
      have hm1 : m ≤ 1099511627776 := by omega
      go_wp2_with (go_at_call 15; refine (rtrim_any _ _ _ _ _ hr hlt hm1).mono ?_; rintro e w2 ⟨A2, n2, c2, l2, rfl, hi2, hr2, hb2⟩)
      go_ret
      rw [HV.out, sumTo_all HL.out] at hi2
      exact ⟨A2, n2, c2, l2, rfl, hi2, hr2, hB.trans (hb2.mono hB.size)⟩

/-- What the loop of Small keeps. -/
def RsmallI (l : List Nat) (n : Nat) (v i : Value) : Prop := ∃ k x : Nat, k ≤ n ∧ i = .int .i64 ((k : Int) - 1) ∧ v = .int .u64 x ∧ x = val (l.drop k)

end Go.Proofs.Wd
