/- Walks of prod's Up and Down; The walk of prod's Down; Walks of straitref02's count, Up, Down; straitref01's Trim and Sub give memory of their own. -/
import Derived.Test.YtghgemeclgpibaaDoorMQN14
import Derived.Test.YtghgemeclgpibaaDoorMQN13
import Derived.Test.YtghgemeclgpibaaDoorMQN3
import Derived.Test.YtghgemeclgpibaaDoorMQN9
import Derived.Test.YtghgemeclgpibaaDoorMQN1
import Derived.Test.YtghgemeclgpibaaDoorMQN7
namespace Go.Proofs.Wd
open Go.RowKit Lb

theorem run_make0 (k : Nat) (h : k ≤ 17592186044416) (w : World) :
    (Instr.makeSlice 23 (.int .i64 0) (.int .i64 (k : Int))).run Tryd.prog w = .ok (.slice (some ⟨w.heap.size, 0, none⟩) 0 k) (w.alloc (.cells (madeCells #[.int .u32 0] k) 49)) := by
  obtain ⟨i, hi, hz, hs, hb⟩ := info_parts u32_info
  have hr := run_make (P := Tryd.prog) w 23 49 i (.int .u32 0) u32_under hi hz .i64 .i64 0 k (by omega) (by omega) (by rw [hb]; omega) (by omega)
  simp only [Int.toNat_natCast, hs, Nat.mul_one] at hr
  exact hr
theorem own_make0 (k : Nat) (h : k ≤ 17592186044416) (w : World) : Own32 (w.alloc (.cells (madeCells #[.int .u32 0] k) 49)) w.heap.size 49 (.slice (some ⟨w.heap.size, 0, none⟩) 0 k) [] :=
  ⟨rfl, .inr ⟨w.heap.size, k, _, rfl, Nat.le_refl _, heap_alloc_new w _, Nat.zero_le _, by unfold maxLen; omega, by simp [madeCells], rfl⟩⟩

/-- The call gives back a slice of its own that reads as the trimmed limbs of v. -/
def RetOwn (w : World) (v : Nat) (e : Ending) (w' : World) : Prop := ∃ A n c l, e = .returned (.slice A n c) ∧ Is l v ∧ Own32 w' w.heap.size 49 (.slice A n c) l ∧ Below w.heap.size w w'
theorem Own32.base {w : World} {B B' : Nat} {e : TypeId} {v : Value} {l : List Nat} (h : Own32 w B e v l) (hb : B' ≤ B) : Own32 w B' e v l := by
  obtain ⟨h1, h2⟩ := h
  refine ⟨h1, ?_⟩
  rcases h2 with h2 | ⟨g, cap, cur, h3, h4, h5⟩
  · exact .inl h2
  · exact .inr ⟨g, cap, cur, h3, by omega, h5⟩

set_option maxHeartbeats 400000 in
theorem clone_own (A : Option Addr) (n c : Nat) (l : List Nat) (w : World) (h : Rd w A n c l) (hl : n ≤ 1099511627776) :
    Calls Tryd.prog 80 #[.slice A n c] w fun e w' => ∃ A' c', e = .returned (.slice A' n c') ∧ Own32 w' w.heap.size 49 (.slice A' n c') l ∧ Below w.heap.size w w' := by
  have hq := fun (wx : World) (a : Option Addr) (l c : Nat) => Lib.run_eql_slice_nil (P := Tryd.prog) wx 23 49 a l c 0 0 u32_under
  cases A with
  | none =>
    obtain ⟨rfl, rfl, rfl⟩ := h.empty
    go_enter Tryd.func80, Tryd.ntmps80
    go_wp2
    go_ret
    exact ⟨none, 0, rfl, Own32.none_ _ _ _, Below.refl _ _⟩
  | some ad =>
    have hown : Own32 (w.alloc (.cells #[] 49)) w.heap.size 49 (.slice (some ⟨w.heap.size, 0, none⟩) 0 0) [] := World.ownsRow_made (base := w.heap.size) (e := 49) (size := 1) w #[] 0 (Nat.le_refl _) (by unfold maxLen; omega) rfl
    have hlen := h.len
    go_enter Tryd.func80, Tryd.ntmps80
    go_wp2_with (at_builtin; refine wpList_append_rd rfl _ _ 23 49 rfl u32_under u32_info w.heap.size _ [] rfl hown (some ad) n c l rfl (h.alloc _) (by simp; omega) (by simp) ?_; intro v1 w1 hown1 hg1 hat1; obtain ⟨A1, c1, rfl⟩ := hown1.form)
    go_ret
    rw [List.nil_append] at hown1
    have hb := Own32.grown ((Below.refl w.heap.size w).alloc (Nat.le_refl _) _) hown hg1 (Nat.le_refl _) (by simp)
    rw [hlen] at hown1
    exact ⟨A1, c1, rfl, hown1, hb⟩

set_option maxHeartbeats 400000 in
theorem trim_own (A : Option Addr) (n c : Nat) (l : List Nat) (w : World) (h : Rd w A n c l) (ht : Lt l) (hl : n ≤ 1099511627776) :
    Calls Tryd.prog 50 #[.slice A n c] w (RetOwn w (val l)) := by
  have hle := h.le; have hcap := h.cap; have hlen := h.len
  go_enter Tryd.func50, Tryd.ntmps50
  go_wp2
  go_loop [3] (fun x => ∃ k : Nat, k ≤ n ∧ x = .int .i64 k ∧ (∀ i, k ≤ i → i < l.length → lm l i = 0)) (fun x => (intOf x).toNat)
  case atStart => exact ⟨n, Nat.le_refl _, rfl, fun i h1 h2 => by omega⟩
  case round =>
    obtain ⟨k, hk, rfl, hz⟩ := hrel
    have HZ := hid hz
    clear hz
    by_cases h0 : 0 < k
    · obtain ⟨b, o, rfl, hc⟩ := h.cells (k - 1) (by omega)
      have e1 : (((k : Int) - 1)).toNat = k - 1 := by omega
      by_cases hx : lm l (k - 1) = 0
      · go_wp2
        go_round
        case rel => exact ⟨k - 1, by omega, by congr 1; omega, fun i h1 h2 => by
          by_cases e : i = k - 1
          · subst e; exact hx
          · exact HZ.out i (by omega) h2⟩
        case measure => simp [intOf]; omega
      · have hx2 : ((lm l (k - 1) : Int) == 0) = false := by simpa using hx
        have HX := hid hx
        clear hx
        go_wp2_with (go_at_call 80; refine (clone_own _ k k (l.take k) _ (h.take (by omega) (Nat.le_refl _) (by omega)) (by omega)).mono ?_; rintro e w1 ⟨A1, c1, rfl, hr1, hb1⟩)
        go_ret
        exact ⟨A1, k, c1, l.take k, rfl, ⟨Lt_take ht _, trim_take l k (by omega) HZ.out (.inr HX.out), val_take_of_zero (by omega) HZ.out⟩, hr1, hb1⟩
    · obtain rfl : k = 0 := by omega
      cases A with
      | none =>
        obtain ⟨rfl, rfl, rfl⟩ := h.empty
        go_wp2_with (go_at_call 80; refine (clone_own _ 0 0 [] _ (Rd.nil_ _) (by omega)).mono ?_; rintro e w1 ⟨A1, c1, rfl, hr1, hb1⟩)
        go_ret
        exact ⟨A1, 0, c1, [], rfl, Is.nil, hr1, hb1⟩
      | some ad =>
        go_wp2_with (go_at_call 80; refine (clone_own _ 0 0 (l.take 0) _ (h.take (by omega) (Nat.le_refl _) (by omega)) (by omega)).mono ?_; rintro e w1 ⟨A1, c1, rfl, hr1, hb1⟩)
        go_ret
        exact ⟨A1, 0, c1, l.take 0, rfl, ⟨Lt_take ht _, trim_take l 0 (by omega) HZ.out (.inl rfl), val_take_of_zero (by omega) HZ.out⟩, hr1, hb1⟩

/-- What the loop of Up keeps. -/
def UpI (w : World) (l : List Nat) (n s : Nat) (v o i : Value) (W : World) : Prop :=
  ∃ (j u : Nat) (A : Option Addr) (c : Nat) (lo : List Nat), j ≤ n ∧ i = .int .i64 j ∧ o = .int .u32 u ∧ v = .slice A j c ∧ u < s ∧ Own32 W w.heap.size 49 (.slice A j c) lo ∧ lo.length = j ∧ Lt lo ∧
    val lo + u * BB ^ j = s * sm (lm l) j ∧ Below w.heap.size w W

/-- One limb of 'Up'. -/
theorem up_step (n s u : Nat) (k : Nat) (hk : k ≤ 31) (hs : 2 ^ k = s) (hn : n < 4294967296) (hu : u < s) :
    ∃ p hi lo z : Nat, n * s = p ∧ p < 18446744073709551616 ∧ p / 4294967296 = hi ∧ p % 4294967296 = lo ∧ hi < s ∧ lo < 4294967296 ∧ bits .or .u32 (lo : Int) (u : Int) = (z : Int) ∧ z < 4294967296 ∧ n * s + u = z + hi * 4294967296 := by
  have hs32 : s * 2 ^ (32 - k) = 4294967296 := by
    rw [← hs, ← Nat.pow_add, show k + (32 - k) = 32 from by omega]
  have hs0 : 0 < s := by rw [← hs]; exact Nat.two_pow_pos _
  have hsl : s < 4294967296 := by
    have : 2 ≤ 2 ^ (32 - k) := by
      calc 2 = 2 ^ 1 := rfl
        _ ≤ 2 ^ (32 - k) := Nat.pow_le_pow_right (by omega) (by omega)
    have := Nat.mul_le_mul_left s this
    omega
  have hp : n * s < 4294967296 * s := Nat.mul_lt_mul_of_pos_right hn hs0
  have hp2 : 4294967296 * s ≤ 4294967296 * 4294967296 := Nat.mul_le_mul_left _ (by omega)
  obtain ⟨q, hq⟩ : ∃ q, n * s % 4294967296 = q * s := by
    refine ⟨n % 2 ^ (32 - k), ?_⟩
    rw [← hs32, Nat.mul_comm s, Nat.mul_mod_mul_right]
  have hor : n * s % 4294967296 ||| u = n * s % 4294967296 + u := by
    rw [hq, ← hs, Nat.mul_comm]
    exact (Nat.two_pow_add_eq_or_of_lt (by rw [hs]; exact hu) q).symm
  have hlt : n * s % 4294967296 + u < 4294967296 := by
    have h1 : n * s % 4294967296 < 4294967296 := by omega
    rw [hq] at h1 ⊢
    rw [← hs32, Nat.mul_comm q] at h1
    have h2 : q < 2 ^ (32 - k) := Nat.lt_of_mul_lt_mul_left h1
    have h3 : (q + 1) * s ≤ 2 ^ (32 - k) * s := Nat.mul_le_mul_right _ h2
    rw [Nat.add_mul, Nat.one_mul, Nat.mul_comm (2 ^ (32 - k)), hs32] at h3
    omega
  refine ⟨n * s, n * s / 4294967296, n * s % 4294967296, n * s % 4294967296 + u, rfl, by omega, rfl, rfl, Nat.div_lt_of_lt_mul (by rw [Nat.mul_comm] at hp ⊢; exact hp), by omega, ?_, hlt, by omega⟩
  rw [u32_or_nat _ _ (by omega) (by omega), hor]

set_option maxRecDepth 100000 in
set_option maxHeartbeats 1000000 in
theorem up_any (A : Option Addr) (n c : Nat) (l : List Nat) (k : Nat) (w : World) (h : Rd w A n c l) (ht : Lt l) (hk : k ≤ 31) (hn : n ≤ 100000) :
    Calls Tryd.prog 72 #[.slice A n c, .int .i64 (k : Int)] w (RetOwn w (val l * 2 ^ k)) := by
  have hle := h.le; have hcap := h.cap
  have HN := hid h.len
  have hmk : ∀ wx : World, (Instr.makeSlice 23 (.int .i64 0) (.int .i64 ((n : Int) + 1))).run Tryd.prog wx = .ok (.slice (some ⟨wx.heap.size, 0, none⟩) 0 (n + 1)) (wx.alloc (.cells (madeCells #[.int .u32 0] (n + 1)) 49)) := fun wx => run_make0 (n + 1) (by omega) wx
  have hk1 : (k : Int) / 32 = 0 := by omega
  have hk2 : (k : Int) % 32 = (k : Int) := by omega
  have hk3 : (k : Int).tdiv 32 = 0 := by rw [Int.tdiv_eq_ediv_of_nonneg (by omega)]; exact hk1
  have hk4 : (k : Int).tmod 32 = (k : Int) := by rw [Int.tmod_eq_emod_of_nonneg (by omega)]; exact hk2
  obtain ⟨s, hs⟩ : ∃ s, 2 ^ k = s := ⟨_, rfl⟩
  rw [hs]
  have hsl : s < 4294967296 := by rw [← hs]; exact Nat.lt_of_le_of_lt (Nat.pow_le_pow_right (by omega) hk) (by decide)
  have hpow : (2 : Int) ^ k % 4294967296 = (s : Int) := by
    rw [← hs, Int.natCast_pow]
    have : ((2 ^ k : Nat) : Int) < 4294967296 := by rw [hs]; omega
    rw [Int.natCast_pow] at this
    have h0 := Int.natCast_nonneg (2 ^ k)
    rw [Int.natCast_pow] at h0
    exact Int.emod_eq_of_lt h0 this
  go_enter Tryd.func72, Tryd.ntmps72
  go_wp2_with (go_at_call 100; refine (count_any k 65536 (by omega) (by omega) _).mono ?_; rintro e w1 ⟨rfl, hw1⟩; rw [hw1]; clear hw1 w1)
  go_loopw [5, 6, 24] (UpI w l n s) (fun _ _ i _ => n - (intOf i).toNat)
  case atStart => exact ⟨0, 0, _, _, [], Nat.zero_le _, rfl, rfl, rfl, by rw [← hs]; exact Nat.two_pow_pos _, own_make0 (n + 1) (by omega) w, rfl, Lt_nil, by simp [sm], (Below.refl _ w).alloc (Nat.le_refl _) _⟩
  case round =>
    obtain ⟨j, u, Ao, co, lo, hj, rfl, rfl, rfl, hu, hown, hlo, hlt, heq, hB⟩ := hrel
    have HQ := hid heq
    clear heq
    have hr := h.below hB
    by_cases hjn : j < n
    · obtain ⟨b, o, rfl, hcb⟩ := hr.cells j hjn
      have x1 := lm_BB ht j
      simp only [BB] at x1
      obtain ⟨x, hx⟩ : ∃ x, lm l j = x := ⟨_, rfl⟩
      rw [hx] at x1 hcb
      obtain ⟨p, hi, lw, z, hp, hp2, hhi, hlw, hhs, hlw2, hor, hz, hst⟩ := up_step x s u k hk hs x1 hu
      have hmul := mul32_any x s p hi lw x1 hsl hp hp2 hhi hlw
      have HX := hid hx; have HST := hid hst
      clear hx hst hp hhi hlw
      have hs1 : lo.length + [z].length ≤ 17592186044416 := by simp; omega
      have hl1 : (lo ++ [z]).length = j + 1 := by simp; omega
      go_wp2_with (first | (go_at_call 101; refine (hmul _).mono ?_; rintro e w2 ⟨rfl, rfl⟩) | (at_builtin; refine wpList_append_rd rfl _ _ 23 49 rfl u32_under u32_info w.heap.size _ lo rfl (Own32.alloc hown _) _ 1 1 [z] rfl (Rd.one _ z 49) hs1 (le_alloc hB.size _) ?_; intro v1 w3 hown1 hg1 hat1; obtain ⟨A1, c1, rfl⟩ := hown1.form' hl1))
      go_roundw
      case rel => exact ⟨j + 1, hi, A1, c1, lo ++ [z], by omega, by go_num, rfl, rfl, hhs, hown1, hl1, Lt_snoc hlt hz, by rw [val_snoc, hlo]; simp only [sm, Nat.pow_succ]; rw [HX.out]; exact up_math HQ.out HST.out, Own32.grown (hB.alloc hB.size _) (Own32.alloc hown _) hg1 (Nat.le_refl _) (le_alloc hB.size _)⟩
      case measure => simp [intOf]; omega
    · obtain rfl : j = n := by omega
      have hs1 : lo.length + [u].length ≤ 17592186044416 := by simp; omega
      have hl1 : (lo ++ [u]).length = j + 1 := by simp; omega
      have hl2 : Lt (lo ++ [u]) := Lt_snoc hlt (by unfold BB; omega)
      have hk9 : j + 1 ≤ 1099511627776 := by omega
      go_wp2_with (first | (at_builtin; refine wpList_append_rd rfl _ _ 23 49 rfl u32_under u32_info w.heap.size _ lo rfl (Own32.alloc hown _) _ 1 1 [u] rfl (Rd.one _ u 49) hs1 (le_alloc hB.size _) ?_; intro v1 w3 hown1 hg1 hat1; obtain ⟨A1, c1, rfl⟩ := hown1.form' hl1) | (go_at_call 50; refine (trim_own _ _ _ _ _ hown1.rd hl2 hk9).mono ?_; rintro e w2 ⟨A2, n2, c2, l2, rfl, hi2, hr2, hb2⟩))
      go_ret
      have e1 := val_eq (l := l) (n := j) (by have := HN.out; omega)
      have hv : val (lo ++ [u]) = val l * s := by rw [val_snoc, hlo, HQ.out, e1, Nat.mul_comm]
      rw [hv] at hi2
      have hB1 := Own32.grown (hB.alloc hB.size _) (Own32.alloc hown _) hg1 (Nat.le_refl _) (le_alloc hB.size _)
      exact ⟨A2, n2, c2, l2, rfl, hi2, hr2.base hB1.size, hB1.trans (hb2.mono hB1.size)⟩
end Go.Proofs.Wd


namespace Go.Proofs.Wd
open Go.RowKit Lb
attribute [local go_sem] Oper.semAt_some wide_fn wide_depth

/-- What the loop of Down keeps. -/
def DownI (w : World) (R cc : Nat) (l : List Nat) (n s : Nat) (i : Value) (W : World) : Prop :=
  ∃ (j : Nat) (l' : List Nat), j ≤ n ∧ i = .int .i64 j ∧ Row W R cc l' ∧ l'.length = n ∧ Lt l' ∧ (∀ x, j ≤ x → lm l' x = lm l x) ∧
    sm (lm l) j + lm l j % s * BB ^ j = s * sm (lm l') j + lm l 0 % s ∧ Below w.heap.size w W

/-- One limb of 'Down'. -/
theorem down_step (x y s k : Nat) (hk : k ≤ 31) (hs : 2 ^ k = s) (hx : x < 4294967296) :
    ∃ f sh z : Nat, x / s = f ∧ y * 2 ^ (32 - k) % 4294967296 = sh ∧ f < 4294967296 ∧ sh < 4294967296 ∧ bits .or .u32 (f : Int) (sh : Int) = (z : Int) ∧ z < 4294967296 ∧ s * z = (x - x % s) + 4294967296 * (y % s) ∧ (y % s = 0 → f = z) := by
  have hs32 : s * 2 ^ (32 - k) = 4294967296 := by
    rw [← hs, ← Nat.pow_add, show k + (32 - k) = 32 from by omega]
  have hs0 : 0 < s := by rw [← hs]; exact Nat.two_pow_pos _
  obtain ⟨T, hT⟩ : ∃ T, 2 ^ (32 - k) = T := ⟨_, rfl⟩
  rw [hT] at hs32
  have hsh : y * T % 4294967296 = y % s * T := by rw [← hs32, Nat.mul_mod_mul_right]
  have hf : x / s < T := Nat.div_lt_of_lt_mul (by rw [hs32]; exact hx)
  have hsl : y % s * T < 4294967296 := by
    rw [← hs32]
    exact Nat.mul_lt_mul_of_pos_right (Nat.mod_lt _ hs0) (by rw [← hT]; exact Nat.two_pow_pos _)
  have hor : y % s * T ||| x / s = y % s * T + x / s := by
    rw [← hT] at hf ⊢
    rw [Nat.mul_comm]
    exact (Nat.two_pow_add_eq_or_of_lt hf _).symm
  have hz : y % s * T + x / s < 4294967296 := by
    have h1 : (y % s + 1) * T ≤ s * T := Nat.mul_le_mul_right _ (Nat.mod_lt _ hs0)
    rw [hs32, Nat.add_mul, Nat.one_mul] at h1
    obtain ⟨f, hf1⟩ : ∃ f, x / s = f := ⟨_, rfl⟩
    rw [hf1] at hf ⊢
    omega
  refine ⟨x / s, y * 2 ^ (32 - k) % 4294967296, y % s * T + x / s, rfl, rfl, Nat.lt_of_le_of_lt (Nat.div_le_self _ _) hx, by omega, ?_, hz, ?_, fun e => by rw [e, Nat.zero_mul, Nat.zero_add]⟩
  · rw [hT, hsh, u32_or_nat _ _ (Nat.lt_of_le_of_lt (Nat.div_le_self _ _) hx) hsl, Nat.or_comm, hor]
  · rw [Nat.mul_add, Nat.mul_left_comm, hs32, Nat.mul_comm (y % s)]
    have := Nat.div_add_mod x s
    omega

set_option maxRecDepth 100000 in
set_option maxHeartbeats 1000000 in
theorem down_any (A : Option Addr) (n c : Nat) (l : List Nat) (k : Nat) (w : World) (h : Rd w A n c l) (ht : Lt l) (hk : k ≤ 31) (hn : n ≤ 100000) :
    Calls Tryd.prog 86 #[.slice A n c, .int .i64 (k : Int)] w (RetNat w (val l / 2 ^ k)) := by
  have hmix : Tryd.prog.follows .mixedOrders = true := by kernel_rfl
  have hle := h.le; have hcap := h.cap
  have HN := hid h.len
  have hk1 : (k : Int) / 32 = 0 := by omega
  have hk2 : (k : Int) % 32 = (k : Int) := by omega
  have hk3 : (k : Int).tdiv 32 = 0 := by rw [Int.tdiv_eq_ediv_of_nonneg (by omega)]; exact hk1
  have hk4 : (k : Int).tmod 32 = (k : Int) := by rw [Int.tmod_eq_emod_of_nonneg (by omega)]; exact hk2
  have hcount : ∀ w1 : World, Calls Tryd.prog 100 #[.int .i64 (k : Int), .int .i64 65536] w1 fun e w' => e = .returned (.int .i64 (k : Int)) ∧ w' = w1 := fun w1 => count_any k 65536 (by omega) (by omega) w1
  rcases Nat.eq_zero_or_pos n with rfl | hn0
  · obtain rfl : l = [] := List.eq_nil_of_length_eq_zero h.len
    go_enter Tryd.func86, Tryd.ntmps86
    go_wp2
    go_step3
    go_wp2_with (go_at_call 100; go_must (refine (hcount _).mono ?_; rintro e w1 ⟨rfl, hw1⟩; rw [hw1]; clear hw1 w1))
    rw [Exit.noGoto_ret]
    go_ret
    exact ⟨none, 0, 0, [], rfl, by show Is [] (0 / 2 ^ k); rw [Nat.zero_div]; exact Is.nil, Rd.nil_ w, Below.refl _ _⟩
  · obtain ⟨b, o, rfl, _, _⟩ := h.shape hn0
    have hclone := clone_own (some ⟨b, o, none⟩) n c l w h (by omega)
    obtain ⟨s, hs⟩ : ∃ s, 2 ^ k = s := ⟨_, rfl⟩
    rw [hs]
    go_enter Tryd.func86, Tryd.ntmps86
    go_wp2
    go_step3
    go_wp2_with (first | (go_at_call 100; go_must (refine (hcount _).mono ?_; rintro e w1 ⟨rfl, hw1⟩; rw [hw1]; clear hw1 w1)) | (go_at_call 80; go_must (refine hclone.mono ?_; rintro e w1 ⟨A1, c1, rfl, ho1, hb1⟩; obtain ⟨R, rfl, _, hR, hrow⟩ := Row.of_own ho1 (by rw [h.len]; exact hn0))))
    go_step3
    go_wp2
    go_loopw [21] (DownI w R c1 l n s) (fun i _ => n - (intOf i).toNat)
    case atStart => exact ⟨0, l, Nat.zero_le _, rfl, hrow, HN.out, ht, fun _ _ => rfl, by simp [sm], hb1⟩
    case round =>
      obtain ⟨j, l', hj, rfl, hr, hl, hlt, hun, heq, hB⟩ := hrel
      have HQ := hid heq
      have HU := hid hun
      clear heq hun
      by_cases hjn : j < n
      · have hrc := hr.cap
        have gr := hr.cell (i := j) (by omega)
        have gf := hr.frozen j
        have hx0 : lm l' j = lm l j := HU.out _ (Nat.le_refl _)
        have x1 := lm_BB ht j
        simp only [BB] at x1
        obtain ⟨x, hx⟩ : ∃ x, lm l j = x := ⟨_, rfl⟩
        obtain ⟨y, hy⟩ : ∃ y, lm l (j + 1) = y := ⟨_, rfl⟩
        rw [hx0, hx] at gr
        rw [hx] at x1
        obtain ⟨f, sh, z, hf, hsh, hf2, hsh2, hor, hz, hst, hfz⟩ := down_step x y s k hk hs x1
        have hdv : (x : Int) / 2 ^ k = (f : Int) := by
          rw [← hf, ← hs, Int.natCast_ediv, Int.natCast_pow]
          rfl
        have HX := hid hx; have HY := hid hy; have HST := hid hst; have HFZ := hid hfz; have HSH := hid hsh
        clear hx hx0 hy hst hf hfz hsh
        have key : ∀ (W : World) (v : Nat), v < 4294967296 → v = z → Row W R c1 (l'.set j v) → Below w.heap.size w W → DownI w R c1 l n s (.int .i64 ((j : Int) + 1)) W := by
          intro W v hv hvz hr2 hb2
          subst hvz
          refine ⟨j + 1, l'.set j v, by omega, by go_num, hr2, by rw [List.length_set]; exact hl, Lt_set hlt hz, fun y hy => ?_, ?_, hb2⟩
          · rw [lm_set (by omega), if_neg (by omega)]
            exact HU.out y (by omega)
          · have e1 : sm (lm (l'.set j v)) (j + 1) = sm (lm l') j + v * BB ^ j := by
              show sm (lm (l'.set j v)) j + lm (l'.set j v) j * BB ^ j = _
              rw [lm_set (by omega), if_pos rfl]
              congr 1
              exact sm_congr fun i hi => by rw [lm_set (by omega), if_neg (by omega)]
            rw [e1, HY.out, Nat.pow_succ]
            show sm (lm l) j + lm l j * BB ^ j + _ * (BB ^ j * 4294967296) = _
            rw [HX.out]
            have hq := HQ.out
            rw [HX.out] at hq
            exact down_math hq HST.out
        have HK := hid key
        clear key
        rcases (by omega : n ≤ j + 1 ∨ (j + 1 < n ∧ k = 0) ∨ (j + 1 < n ∧ 0 < k)) with h9 | ⟨h9, h10⟩ | ⟨h9, h10⟩
        · have hy0 := HY.out
          rw [lm_ge (by have := HN.out; omega)] at hy0
          have hfz := HFZ.out (by rw [← hy0]; exact Nat.zero_mod s)
          have hk9 := HK.out _ f hf2 hfz (hr.set j f) (hB.setCell (p := ⟨R, j, none⟩) hR _)
          have HK9 := hid hk9
          clear hy0 hfz hk9
          go_wp2
          exact ⟨HK9.out, by simp [intOf]; omega⟩
        · have hk0 : ((k : Int) == 0) = true := by simp [h10]
          have hfz := HFZ.out (by rw [← hs, h10]; exact Nat.mod_one y)
          have hk9 := HK.out _ f hf2 hfz (hr.set j f) (hB.setCell (p := ⟨R, j, none⟩) hR _)
          have HK9 := hid hk9
          clear hfz hk9 h10
          go_wp2
          exact ⟨HK9.out, by simp [intOf]; omega⟩
        · have hr9 := hr.set j f
          have hk9 := HK.out ((wr.setCell ⟨R, j, none⟩ (.int .u32 (f : Int))).setCell ⟨R, j, none⟩ (.int .u32 (z : Int))).drew z hz rfl (by have := hr9.set j z; rw [List.set_set] at this; exact this.kept rfl) ((hB.setCell (p := ⟨R, j, none⟩) hR _).setCell (p := ⟨R, j, none⟩) hR _).drew
          have HK9 := hid hk9
          clear hk9
          have hk0 : ((k : Int) == 0) = false := by simp only [beq_eq_false_iff_ne, ne_eq]; omega
          have hjl : (j : Int) + 1 < (l.length : Int) := by have := HN.out; omega
          have hwr : IntKind.i64.wrap ((j : Int) + 1) = (j : Int) + 1 := by rw [IntKind.wrap_i64]; omega
          have hjt : ((j : Int) + 1).toNat = j + 1 := by omega
          obtain ⟨m, hm⟩ : ∃ m, 32 - k = m := ⟨_, rfl⟩
          have e2 : (32 : Int) - (k : Int) = (m : Int) := by omega
          have e3 : IntKind.i64.wrap (m : Int) = (m : Int) := by rw [IntKind.wrap_i64]; omega
          have hshl : (y : Int) * 2 ^ m % 4294967296 = (sh : Int) := by
            rw [← HSH.out, hm, Int.natCast_emod, Int.natCast_mul, Int.natCast_pow]
            rfl
          have hm32 : m ≤ 32 := by omega
          clear hm
          have d1 : (wr.setCell ⟨R, j, none⟩ (.int .u32 (f : Int))).drew.cell? ⟨R, j, none⟩ = some (.int .u32 (f : Int)) := by
            have := hr9.cell (i := j) (by rw [List.length_set]; omega)
            rwa [lm_set (by omega), if_pos rfl] at this
          have d2 : (wr.setCell ⟨R, j, none⟩ (.int .u32 (f : Int))).drew.cell? ⟨R, j + 1, none⟩ = some (.int .u32 (y : Int)) := by
            have := hr9.cell (i := j + 1) (by rw [List.length_set]; omega)
            rw [lm_set (by omega), if_neg (by omega), HU.out _ (by omega), HY.out] at this
            exact this
          have d3 : (wr.setCell ⟨R, j, none⟩ (.int .u32 (f : Int))).drew.frozen? ⟨R, j, none⟩ = false := hr9.frozen j
          go_wp2
          refine (wpIn_wide (n := 0)).1 ?_
          refine wpIn_region_C 15 (fun W => W.cell? ⟨R, j, none⟩ = some (.int .u32 (f : Int)) ∧ W.cell? ⟨R, j + 1, none⟩ = some (.int .u32 (y : Int))) hmix ?_
          have d4 := And.intro d1 d2
          refine takeC (i := 0) (v := ?vv1) (by kernel_rfl) (by kernel_rfl) rfl (by kernel_rfl) (by kernel_rfl) (by kernel_rfl) (fun _ _ _ h => h) d4 ⟨.inl ⟨rfl, ?yy1⟩, fun _ => rfl⟩ ?_
          case yy1 =>
            rintro wx ⟨q1, q2⟩
            go_simp
            first | done | rfl
          refine takeC (i := 1) (v := ?vv2) (by kernel_rfl) (by kernel_rfl) rfl (by kernel_rfl) (by kernel_rfl) (by kernel_rfl) (fun _ _ _ h => h) d4 ⟨.inl ⟨rfl, ?yy2⟩, fun _ => rfl⟩ ?_
          case yy2 =>
            rintro wx ⟨q1, q2⟩
            go_simp
            first | done | rfl
          refine takeC (i := 2) (v := ?vv3) (by kernel_rfl) (by kernel_rfl) rfl (by kernel_rfl) (by kernel_rfl) (by kernel_rfl) (fun _ _ _ h => h) d4 ⟨.inl ⟨rfl, ?yy3⟩, fun _ => rfl⟩ ?_
          case yy3 =>
            rintro wx ⟨q1, q2⟩
            go_simp
            first | done | rfl
          refine takeC (i := 3) (v := ?vv4) (by kernel_rfl) (by kernel_rfl) rfl (by kernel_rfl) (by kernel_rfl) (by kernel_rfl) (fun _ _ _ h => h) d4 ⟨.inl ⟨rfl, ?yy4⟩, fun _ => rfl⟩ ?_
          case yy4 =>
            rintro wx ⟨q1, q2⟩
            go_simp
            first | done | rfl
          refine takeC (i := 4) (v := ?vv5) (by kernel_rfl) (by kernel_rfl) rfl (by kernel_rfl) (by kernel_rfl) (by kernel_rfl) (fun _ _ _ h => h) d4 ⟨.inl ⟨rfl, ?yy5⟩, fun _ => rfl⟩ ?_
          case yy5 =>
            rintro wx ⟨q1, q2⟩
            go_simp
            first | done | rfl
          refine takeC (i := 5) (v := ?vv6) (by kernel_rfl) (by kernel_rfl) rfl (by kernel_rfl) (by kernel_rfl) (by kernel_rfl) (fun _ _ _ h => h) d4 ⟨.inl ⟨rfl, ?yy6⟩, fun _ => rfl⟩ ?_
          case yy6 =>
            rintro wx ⟨q1, q2⟩
            go_simp
            first | done | rfl
          refine takeC (i := 6) (v := ?vv7) (by kernel_rfl) (by kernel_rfl) rfl (by kernel_rfl) (by kernel_rfl) (by kernel_rfl) (fun _ _ _ h => h) d4 ⟨.inl ⟨rfl, ?yy7⟩, fun _ => rfl⟩ ?_
          case yy7 =>
            rintro wx ⟨q1, q2⟩
            go_simp
            first | done | rfl
          refine takeC (i := 7) (v := ?vv8) (by kernel_rfl) (by kernel_rfl) rfl (by kernel_rfl) (by kernel_rfl) (by kernel_rfl) (fun _ _ _ h => h) d4 ⟨.inl ⟨rfl, ?yy8⟩, fun _ => rfl⟩ ?_
          case yy8 =>
            rintro wx ⟨q1, q2⟩
            go_simp
            first | done | rfl
          refine takeC (i := 8) (v := ?vv9) (by kernel_rfl) (by kernel_rfl) rfl (by kernel_rfl) (by kernel_rfl) (by kernel_rfl) (fun _ _ _ h => h) d4 ⟨.inl ⟨rfl, ?yy9⟩, fun _ => rfl⟩ ?_
          case yy9 =>
            rintro wx ⟨q1, q2⟩
            go_simp
            first | done | rfl
          refine takeC (i := 9) (v := ?vv10) (by kernel_rfl) (by kernel_rfl) rfl (by kernel_rfl) (by kernel_rfl) (by kernel_rfl) (fun _ _ _ h => h) d4 ⟨.inl ⟨rfl, ?yy10⟩, fun _ => rfl⟩ ?_
          case yy10 =>
            rintro wx ⟨q1, q2⟩
            go_simp
            first | done | rfl
          refine takeC (i := 10) (v := ?vv11) (by kernel_rfl) (by kernel_rfl) rfl (by kernel_rfl) (by kernel_rfl) (by kernel_rfl) (fun _ _ _ h => h) d4 ⟨.inl ⟨rfl, ?yy11⟩, fun _ => rfl⟩ ?_
          case yy11 =>
            rintro wx ⟨q1, q2⟩
            go_simp
            first | done | rfl
          refine takeC (i := 11) (v := ?vv12) (by kernel_rfl) (by kernel_rfl) rfl (by kernel_rfl) (by kernel_rfl) (by kernel_rfl) (fun _ _ _ h => h) d4 ⟨.inl ⟨rfl, ?yy12⟩, fun _ => rfl⟩ ?_
          case yy12 =>
            rintro wx ⟨q1, q2⟩
            go_simp
            first | done | rfl
          refine takeC (i := 12) (v := ?vv13) (by kernel_rfl) (by kernel_rfl) rfl (by kernel_rfl) (by kernel_rfl) (by kernel_rfl) (fun _ _ _ h => h) d4 ⟨.inl ⟨rfl, ?yy13⟩, fun _ => rfl⟩ ?_
          case yy13 =>
            rintro wx ⟨q1, q2⟩
            go_simp
            first | done | rfl
          refine takeC (i := 13) (v := ?vv14) (by kernel_rfl) (by kernel_rfl) rfl (by kernel_rfl) (by kernel_rfl) (by kernel_rfl) (fun _ _ _ h => h) d4 ⟨.inl ⟨rfl, ?yy14⟩, fun _ => rfl⟩ ?_
          case yy14 =>
            rintro wx ⟨q1, q2⟩
            go_simp
            first | done | rfl
          refine takeC (i := 14) (v := ?vv15) (by kernel_rfl) (by kernel_rfl) rfl (by kernel_rfl) (by kernel_rfl) (by kernel_rfl) (fun _ _ _ h => h) d4 ⟨.inl ⟨rfl, ?yy15⟩, fun _ => rfl⟩ ?_
          case yy15 =>
            rintro wx ⟨q1, q2⟩
            go_simp
            first | done | rfl
          refine oneC (i := 15) (by kernel_rfl) rfl (fun K hK => ?_)
          go_simp
          refine hK _ _ (.inl rfl) ?_
          clear hK K
          refine doneP (by kernel_rfl) ?_
          go_wp2
          rw [hshl, hor]
          exact ⟨HK9.out, by simp [intOf]; omega⟩
      · obtain rfl : j = n := by omega
        have hfin : val l' = val l / s := by
          have e1 : sm (lm l) j = val l := by have := HN.out; unfold val; rw [this]
          have e2 : sm (lm l') j = val l' := by unfold val; rw [hl]
          have e3 : lm l j = 0 := lm_ge (by have := HN.out; omega)
          have hq := HQ.out
          rw [e1, e2, e3, Nat.zero_mod, Nat.zero_mul, Nat.add_zero] at hq
          have hs0 : 0 < s := by rw [← hs]; exact Nat.two_pow_pos _
          rw [hq, Nat.mul_add_div hs0, Nat.div_eq_of_lt (Nat.mod_lt _ hs0), Nat.add_zero]
        have hrd : Rd wr (some ⟨R, 0, none⟩) l.length c1 l' := by have := hr.rd; rwa [hl, ← HN.out] at this
        have htr := trim_any (some ⟨R, 0, none⟩) l.length c1 l' wr hrd hlt (by rw [HN.out]; omega)
        rw [hfin] at htr
        clear hfin
        go_wp2_with (go_at_call 50; (with_reducible refine htr.mono ?_); rintro e w2 ⟨A2, n2, c2, l2, rfl, hi2, hr2, hb2⟩)
        rw [Exit.noGoto_ret]
        go_ret
        exact ⟨A2, n2, c2, l2, rfl, hi2, hr2, hB.trans (hb2.mono hB.size)⟩
end Go.Proofs.Wd


namespace Go.Proofs.Wd
open Go.RowKit Lb

end Go.Proofs.Wd


namespace Go.Proofs.Wd
open Go.RowKit Lb

end Go.Proofs.Wd

