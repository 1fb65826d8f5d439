/- Walks of prod's Up and Down. -/
import Derived.Test.YtghgemeclgpibaaDoorBits
import Derived.Test.YtghgemeclgpibaaDoorKnuthF
namespace Go.Proofs.Wd
open Go.RowKit Lb

theorem run_make0 (k : Nat) (h : k ≤ 17592186044416) (w : World) :
    (Instr.makeSlice 23 (.int .i64 0) (.int .i64 (k : Int))).run Tryd.prog w = .ok (.slice (some ⟨w.heap.size, 0, none⟩) 0 k) (w.alloc (.cells (madeCells #[.int .u32 0] k) 49)) := by
  obtain ⟨i, hi, hz, hs, hb⟩ := info_parts u32_info
  have hr := run_make (P := Tryd.prog) w 23 49 i (.int .u32 0) u32_under hi hz .i64 .i64 0 k (by omega) (by omega) (by rw [hb]; omega) (by omega)
  simp only [Int.toNat_natCast, hs, Nat.mul_one] at hr
  exact hr
theorem own_make0 (k : Nat) (h : k ≤ 17592186044416) (w : World) : Own32 (w.alloc (.cells (madeCells #[.int .u32 0] k) 49)) w.heap.size 49 (.slice (some ⟨w.heap.size, 0, none⟩) 0 k) [] :=
  ⟨rfl, .inr ⟨w.heap.size, k, _, rfl, Nat.le_refl _, heap_alloc_new w _, Nat.zero_le _, by unfold maxLen; omega, by simp [madeCells], rfl⟩⟩

/-- The call gives back a slice of its own that reads as the trimmed limbs of v. -/
def RetOwn (w : World) (v : Nat) (e : Ending) (w' : World) : Prop := ∃ A n c l, e = .returned (.slice A n c) ∧ Is l v ∧ Own32 w' w.heap.size 49 (.slice A n c) l ∧ Below w.heap.size w w'
theorem Own32.base {w : World} {B B' : Nat} {e : TypeId} {v : Value} {l : List Nat} (h : Own32 w B e v l) (hb : B' ≤ B) : Own32 w B' e v l := by
  obtain ⟨h1, h2⟩ := h
  refine ⟨h1, ?_⟩
  rcases h2 with h2 | ⟨g, cap, cur, h3, h4, h5⟩
  · exact .inl h2
  · exact .inr ⟨g, cap, cur, h3, by omega, h5⟩

set_option maxHeartbeats 400000 in
theorem clone_own (A : Option Addr) (n c : Nat) (l : List Nat) (w : World) (h : Rd w A n c l) (hl : n ≤ 1099511627776) :
    Calls Tryd.prog 80 #[.slice A n c] w fun e w' => ∃ A' c', e = .returned (.slice A' n c') ∧ Own32 w' w.heap.size 49 (.slice A' n c') l ∧ Below w.heap.size w w' := by
  have hq := fun (wx : World) (a : Option Addr) (l c : Nat) => Lib.run_eql_slice_nil (P := Tryd.prog) wx 23 49 a l c 0 0 u32_under
  cases A with
  | none =>
    obtain ⟨rfl, rfl, rfl⟩ := h.empty
    go_enter Tryd.func80, Tryd.ntmps80
    go_wp2
    go_ret
    exact ⟨none, 0, rfl, Own32.none_ _ _ _, Below.refl _ _⟩
  | some ad =>
    have hown : Own32 (w.alloc (.cells #[] 49)) w.heap.size 49 (.slice (some ⟨w.heap.size, 0, none⟩) 0 0) [] := World.ownsRow_made (base := w.heap.size) (e := 49) (size := 1) w #[] 0 (Nat.le_refl _) (by unfold maxLen; omega) rfl
    have hlen := h.len
    go_enter Tryd.func80, Tryd.ntmps80
    go_wp2_with (at_builtin; refine wpList_append_rd rfl _ _ 23 49 rfl u32_under u32_info w.heap.size _ [] rfl hown (some ad) n c l rfl (h.alloc _) (by simp; omega) (by simp) ?_; intro v1 w1 hown1 hg1 hat1; obtain ⟨A1, c1, rfl⟩ := hown1.form)
    go_ret
    rw [List.nil_append] at hown1
    have hb := Own32.grown ((Below.refl w.heap.size w).alloc (Nat.le_refl _) _) hown hg1 (Nat.le_refl _) (by simp)
    rw [hlen] at hown1
    exact ⟨A1, c1, rfl, hown1, hb⟩

set_option maxHeartbeats 400000 in
theorem trim_own (A : Option Addr) (n c : Nat) (l : List Nat) (w : World) (h : Rd w A n c l) (ht : Lt l) (hl : n ≤ 1099511627776) :
    Calls Tryd.prog 50 #[.slice A n c] w (RetOwn w (val l)) := by
  have hle := h.le; have hcap := h.cap; have hlen := h.len
  go_enter Tryd.func50, Tryd.ntmps50
  go_wp2
  go_loop [3] (fun x => ∃ k : Nat, k ≤ n ∧ x = .int .i64 k ∧ (∀ i, k ≤ i → i < l.length → lm l i = 0)) (fun x => (intOf x).toNat)
  case atStart => exact ⟨n, Nat.le_refl _, rfl, fun i h1 h2 => by omega⟩
  case round =>
    obtain ⟨k, hk, rfl, hz⟩ := hrel
    have HZ := hid hz
    clear hz
    by_cases h0 : 0 < k
    · obtain ⟨b, o, rfl, hc⟩ := h.cells (k - 1) (by omega)
      have e1 : (((k : Int) - 1)).toNat = k - 1 := by omega
      by_cases hx : lm l (k - 1) = 0
      · go_wp2
        go_round
        case rel => exact ⟨k - 1, by omega, by congr 1; omega, fun i h1 h2 => by
          by_cases e : i = k - 1
          · subst e; exact hx
          · exact HZ.out i (by omega) h2⟩
        case measure => simp [intOf]; omega
      · have hx2 : ((lm l (k - 1) : Int) == 0) = false := by simpa using hx
        have HX := hid hx
        clear hx
        go_wp2_with (go_at_call 80; refine (clone_own _ k k (l.take k) _ (h.take (by omega) (Nat.le_refl _) (by omega)) (by omega)).mono ?_; rintro e w1 ⟨A1, c1, rfl, hr1, hb1⟩)
        go_ret
        exact ⟨A1, k, c1, l.take k, rfl, ⟨Lt_take ht _, trim_take l k (by omega) HZ.out (.inr HX.out), val_take_of_zero (by omega) HZ.out⟩, hr1, hb1⟩
    · obtain rfl : k = 0 := by omega
      cases A with
      | none =>
        obtain ⟨rfl, rfl, rfl⟩ := h.empty
        go_wp2_with (go_at_call 80; refine (clone_own _ 0 0 [] _ (Rd.nil_ _) (by omega)).mono ?_; rintro e w1 ⟨A1, c1, rfl, hr1, hb1⟩)
        go_ret
        exact ⟨A1, 0, c1, [], rfl, Is.nil, hr1, hb1⟩
      | some ad =>
        go_wp2_with (go_at_call 80; refine (clone_own _ 0 0 (l.take 0) _ (h.take (by omega) (Nat.le_refl _) (by omega)) (by omega)).mono ?_; rintro e w1 ⟨A1, c1, rfl, hr1, hb1⟩)
        go_ret
        exact ⟨A1, 0, c1, l.take 0, rfl, ⟨Lt_take ht _, trim_take l 0 (by omega) HZ.out (.inl rfl), val_take_of_zero (by omega) HZ.out⟩, hr1, hb1⟩

/-- What the loop of Up keeps. -/
def UpI (w : World) (l : List Nat) (n s : Nat) (v o i : Value) (W : World) : Prop :=
  ∃ (j u : Nat) (A : Option Addr) (c : Nat) (lo : List Nat), j ≤ n ∧ i = .int .i64 j ∧ o = .int .u32 u ∧ v = .slice A j c ∧ u < s ∧ Own32 W w.heap.size 49 (.slice A j c) lo ∧ lo.length = j ∧ Lt lo ∧
    val lo + u * BB ^ j = s * sm (lm l) j ∧ Below w.heap.size w W

/-- One limb of 'Up'. -/
theorem up_step (n s u : Nat) (k : Nat) (hk : k ≤ 31) (hs : 2 ^ k = s) (hn : n < 4294967296) (hu : u < s) :
    ∃ p hi lo z : Nat, n * s = p ∧ p < 18446744073709551616 ∧ p / 4294967296 = hi ∧ p % 4294967296 = lo ∧ hi < s ∧ lo < 4294967296 ∧ bits .or .u32 (lo : Int) (u : Int) = (z : Int) ∧ z < 4294967296 ∧ n * s + u = z + hi * 4294967296 := by
  have hs32 : s * 2 ^ (32 - k) = 4294967296 := by
    rw [← hs, ← Nat.pow_add, show k + (32 - k) = 32 from by omega]
  have hs0 : 0 < s := by rw [← hs]; exact Nat.two_pow_pos _
  have hsl : s < 4294967296 := by
    have : 2 ≤ 2 ^ (32 - k) := by
      calc 2 = 2 ^ 1 := rfl
        _ ≤ 2 ^ (32 - k) := Nat.pow_le_pow_right (by omega) (by omega)
    have := Nat.mul_le_mul_left s this
    omega
  have hp : n * s < 4294967296 * s := Nat.mul_lt_mul_of_pos_right hn hs0
  have hp2 : 4294967296 * s ≤ 4294967296 * 4294967296 := Nat.mul_le_mul_left _ (by omega)
  obtain ⟨q, hq⟩ : ∃ q, n * s % 4294967296 = q * s := by
    refine ⟨n % 2 ^ (32 - k), ?_⟩
    rw [← hs32, Nat.mul_comm s, Nat.mul_mod_mul_right]
  have hor : n * s % 4294967296 ||| u = n * s % 4294967296 + u := by
    rw [hq, ← hs, Nat.mul_comm]
    exact (Nat.two_pow_add_eq_or_of_lt (by rw [hs]; exact hu) q).symm
  have hlt : n * s % 4294967296 + u < 4294967296 := by
    have h1 : n * s % 4294967296 < 4294967296 := by omega
    rw [hq] at h1 ⊢
    rw [← hs32, Nat.mul_comm q] at h1
    have h2 : q < 2 ^ (32 - k) := Nat.lt_of_mul_lt_mul_left h1
    have h3 : (q + 1) * s ≤ 2 ^ (32 - k) * s := Nat.mul_le_mul_right _ h2
    rw [Nat.add_mul, Nat.one_mul, Nat.mul_comm (2 ^ (32 - k)), hs32] at h3
    omega
  refine ⟨n * s, n * s / 4294967296, n * s % 4294967296, n * s % 4294967296 + u, rfl, by omega, rfl, rfl, Nat.div_lt_of_lt_mul (by rw [Nat.mul_comm] at hp ⊢; exact hp), by omega, ?_, hlt, by omega⟩
  rw [u32_or_nat _ _ (by omega) (by omega), hor]

set_option maxRecDepth 100000 in
set_option maxHeartbeats 1000000 in
theorem up_any (A : Option Addr) (n c : Nat) (l : List Nat) (k : Nat) (w : World) (h : Rd w A n c l) (ht : Lt l) (hk : k ≤ 31) (hn : n ≤ 100000) :
    Calls Tryd.prog 72 #[.slice A n c, .int .i64 (k : Int)] w (RetOwn w (val l * 2 ^ k)) := by
  have hle := h.le; have hcap := h.cap
  have HN := hid h.len
  have hmk : ∀ wx : World, (Instr.makeSlice 23 (.int .i64 0) (.int .i64 ((n : Int) + 1))).run Tryd.prog wx = .ok (.slice (some ⟨wx.heap.size, 0, none⟩) 0 (n + 1)) (wx.alloc (.cells (madeCells #[.int .u32 0] (n + 1)) 49)) := fun wx => run_make0 (n + 1) (by omega) wx
  have hk1 : (k : Int) / 32 = 0 := by omega
  have hk2 : (k : Int) % 32 = (k : Int) := by omega
  have hk3 : (k : Int).tdiv 32 = 0 := by rw [Int.tdiv_eq_ediv_of_nonneg (by omega)]; exact hk1
  have hk4 : (k : Int).tmod 32 = (k : Int) := by rw [Int.tmod_eq_emod_of_nonneg (by omega)]; exact hk2
  obtain ⟨s, hs⟩ : ∃ s, 2 ^ k = s := ⟨_, rfl⟩
  rw [hs]
  have hsl : s < 4294967296 := by rw [← hs]; exact Nat.lt_of_le_of_lt (Nat.pow_le_pow_right (by omega) hk) (by decide)
  have hpow : (2 : Int) ^ k % 4294967296 = (s : Int) := by
    rw [← hs, Int.natCast_pow]
    have : ((2 ^ k : Nat) : Int) < 4294967296 := by rw [hs]; omega
    rw [Int.natCast_pow] at this
    have h0 := Int.natCast_nonneg (2 ^ k)
    rw [Int.natCast_pow] at h0
    exact Int.emod_eq_of_lt h0 this
  go_enter Tryd.func72, Tryd.ntmps72
  go_wp2_with (go_at_call 100; refine (count_any k 65536 (by omega) (by omega) _).mono ?_; rintro e w1 ⟨rfl, hw1⟩; rw [hw1]; clear hw1 w1)
  go_loopw [5, 6, 24] (UpI w l n s) (fun _ _ i _ => n - (intOf i).toNat)
  case atStart => exact ⟨0, 0, _, _, [], Nat.zero_le _, rfl, rfl, rfl, by rw [← hs]; exact Nat.two_pow_pos _, own_make0 (n + 1) (by omega) w, rfl, Lt_nil, by simp [sm], (Below.refl _ w).alloc (Nat.le_refl _) _⟩
  case round =>
    obtain ⟨j, u, Ao, co, lo, hj, rfl, rfl, rfl, hu, hown, hlo, hlt, heq, hB⟩ := hrel
    have HQ := hid heq
    clear heq
    have hr := h.below hB
    by_cases hjn : j < n
    · obtain ⟨b, o, rfl, hcb⟩ := hr.cells j hjn
      have x1 := lm_BB ht j
      simp only [BB] at x1
      obtain ⟨x, hx⟩ : ∃ x, lm l j = x := ⟨_, rfl⟩
      rw [hx] at x1 hcb
      obtain ⟨p, hi, lw, z, hp, hp2, hhi, hlw, hhs, hlw2, hor, hz, hst⟩ := up_step x s u k hk hs x1 hu
      have hmul := mul32_any x s p hi lw x1 hsl hp hp2 hhi hlw
      have HX := hid hx; have HST := hid hst
      clear hx hst hp hhi hlw
      have hs1 : lo.length + [z].length ≤ 17592186044416 := by simp; omega
      have hl1 : (lo ++ [z]).length = j + 1 := by simp; omega
      go_wp2_with (first | (go_at_call 101; refine (hmul _).mono ?_; rintro e w2 ⟨rfl, rfl⟩) | (at_builtin; refine wpList_append_rd rfl _ _ 23 49 rfl u32_under u32_info w.heap.size _ lo rfl (Own32.alloc hown _) _ 1 1 [z] rfl (Rd.one _ z 49) hs1 (le_alloc hB.size _) ?_; intro v1 w3 hown1 hg1 hat1; obtain ⟨A1, c1, rfl⟩ := hown1.form' hl1))
      go_roundw
      case rel => exact ⟨j + 1, hi, A1, c1, lo ++ [z], by omega, by go_num, rfl, rfl, hhs, hown1, hl1, Lt_snoc hlt hz, by rw [val_snoc, hlo]; simp only [sm, Nat.pow_succ]; rw [HX.out]; exact up_math HQ.out HST.out, Own32.grown (hB.alloc hB.size _) (Own32.alloc hown _) hg1 (Nat.le_refl _) (le_alloc hB.size _)⟩
      case measure => simp [intOf]; omega
    · obtain rfl : j = n := by omega
      have hs1 : lo.length + [u].length ≤ 17592186044416 := by simp; omega
      have hl1 : (lo ++ [u]).length = j + 1 := by simp; omega
      have hl2 : Lt (lo ++ [u]) := Lt_snoc hlt (by unfold BB; omega)
      have hk9 : j + 1 ≤ 1099511627776 := by omega
      go_wp2_with (first | (at_builtin; refine wpList_append_rd rfl _ _ 23 49 rfl u32_under u32_info w.heap.size _ lo rfl (Own32.alloc hown _) _ 1 1 [u] rfl (Rd.one _ u 49) hs1 (le_alloc hB.size _) ?_; intro v1 w3 hown1 hg1 hat1; obtain ⟨A1, c1, rfl⟩ := hown1.form' hl1) | (go_at_call 50; refine (trim_own _ _ _ _ _ hown1.rd hl2 hk9).mono ?_; rintro e w2 ⟨A2, n2, c2, l2, rfl, hi2, hr2, hb2⟩))
      go_ret
      have e1 := val_eq (l := l) (n := j) (by have := HN.out; omega)
      have hv : val (lo ++ [u]) = val l * s := by rw [val_snoc, hlo, HQ.out, e1, Nat.mul_comm]
      rw [hv] at hi2
      have hB1 := Own32.grown (hB.alloc hB.size _) (Own32.alloc hown _) hg1 (Nat.le_refl _) (le_alloc hB.size _)
      exact ⟨A2, n2, c2, l2, rfl, hi2, hr2.base hB1.size, hB1.trans (hb2.mono hB1.size)⟩
end Go.Proofs.Wd
