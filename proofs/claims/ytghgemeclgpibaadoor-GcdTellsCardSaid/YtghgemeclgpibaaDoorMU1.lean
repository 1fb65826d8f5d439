/- The walk of straitref04's Great and twos; The walk of straitref04's twos; The walk of straitref04's Gcd; The walks of straitref04's All, Reduce, Lcm, Coprime; The walk of straitlaw04.GcdTells. -/
import Derived.Test.YtghgemeclgpibaaDoorMG18
import Derived.Test.YtghgemeclgpibaaDoorMG1
import Derived.Test.YtghgemeclgpibaaDoorMG15
namespace Go.Proofs.Wd
open Go.RowKit Lb

/-- A slice of numbers, however long each. -/
structure Nds (w : World) (A : Option Addr) (n : Nat) (ls : List (List Nat)) : Prop where
  len : ls.length = n
  cells : ∀ i, i < n → ∃ b o Ai ni ci li, A = some ⟨b, o, none⟩ ∧ w.cell? ⟨b, o + i, none⟩ = some (.slice Ai ni ci) ∧ ls[i]? = some li ∧ Rd w Ai ni ci li ∧ Lt li
theorem Nds.rds {w : World} {A : Option Addr} {n : Nat} {ls : List (List Nat)} (h : Nds w A n ls) (hl : ∀ l ∈ ls, l.length ≤ 1000) : Rds w A n ls :=
  ⟨h.len, fun i hi => by
    obtain ⟨b, o, Ai, ni, ci, li, e, hc, h1, h2, h3⟩ := h.cells i hi
    exact ⟨b, o, Ai, ni, ci, li, e, hc, h1, h2, h3, by have := hl li (List.mem_of_getElem? h1); rw [h2.len] at this; omega⟩⟩
theorem Nds.two {w : World} {A : Option Addr} {n c : Nat} {l : List Nat} (h : Rd w A n c l) (ht : Lt l) {A' : Option Addr} {n' c' : Nat} {l' : List Nat} (h' : Rd w A' n' c' l') (ht' : Lt l') (t : TypeId) :
    Nds (w.alloc (.cells #[.slice A n c, .slice A' n' c'] t)) (some ⟨w.heap.size, 0, none⟩) 2 [l, l'] :=
  ⟨rfl, fun i hi => by
    rcases (by omega : i = 0 ∨ i = 1) with rfl | rfl
    · exact ⟨_, _, A, n, c, l, rfl, cell_new w _ t 0, rfl, h.alloc _, ht⟩
    · exact ⟨_, _, A', n', c', l', rfl, cell_new w _ t 1, rfl, h'.alloc _, ht'⟩⟩
theorem Nds.below {w w' : World} {A : Option Addr} {n : Nat} {ls : List (List Nat)} (h : Nds w A n ls) (hb : Below w.heap.size w w') : Nds w' A n ls :=
  ⟨h.len, fun i hi => by
    obtain ⟨b, o, Ai, ni, ci, li, e, hc, h1, h2, h3⟩ := h.cells i hi
    exact ⟨b, o, Ai, ni, ci, li, e, (hb.cell (p := ⟨b, o + i, none⟩) (lt_of_cell hc)).trans hc, h1, h2.below hb, h3⟩⟩

def Fine4 (ls : List (List Nat)) : Prop := ls.length ≤ 12 ∧ ∀ l ∈ ls, l.length ≤ 12

/-- What Great may answer. -/
def Said4 (ls : List (List Nat)) (e : Ending) : Prop := ∃ g : Bool, e = .returned (.bool g) ∧ (g = false → Fine4 ls)

set_option maxHeartbeats 1000000 in
theorem r4great_any (A : Option Addr) (n c : Nat) (ls : List (List Nat)) (w : World) (h : Nds w A n ls) (hn : n ≤ c) (_hc : c ≤ 9223372036854775807) :
    Calls Tryd.prog 22 #[.slice A n c] w fun e w' => Said4 ls e ∧ w' = w := by
  have hlen := h.len
  have HLE := hid hlen
  clear hlen
  go_enter Tryd.func22, Tryd.ntmps22
  go_wp2
  go_loop [3] (fun i => ∃ k : Nat, k ≤ n ∧ k ≤ 13 ∧ i = .int .i64 k ∧ ∀ j l, j < k → ls[j]? = some l → l.length ≤ 12) (fun i => 13 - (intOf i).toNat)
  case atStart => exact ⟨0, Nat.zero_le _, by omega, rfl, fun j l hj => by omega⟩
  case round =>
    obtain ⟨k, hk, hk2, rfl, hz⟩ := hrel
    have HZ := hid hz
    clear hz
    by_cases hkn : k < n ∧ k < 13
    · obtain ⟨b, o, Ai, ni, ci, li, rfl, hcl, hi, hr, hli⟩ := h.cells k hkn.1
      have hkn1 := hkn.1
      have hkn2 := hkn.2
      have HI := hid hi
      have HL := hid hr.len
      have ha := hr.le
      have ha2 := hr.cap
      clear hi hli hr
      rcases Nat.lt_or_ge 12 ni with hm | hm
      · go_wp2
        go_ret
        exact ⟨⟨true, rfl, fun e => by cases e⟩, rfl⟩
      · go_wp2
        go_round
        case rel => exact ⟨k + 1, by omega, by omega, by go_num, fun j l hj hl => by
          by_cases e : j = k
          · subst e
            rw [HI.out] at hl
            injection hl with hl
            rw [← hl, HL.out]; exact hm
          · exact HZ.out j l (by omega) hl⟩
        case measure => simp [intOf]; omega
    · rcases (by omega : (k = n ∧ n ≤ 12) ∨ (k < n ∧ k = 13) ∨ (k = n ∧ n = 13)) with ⟨rfl, hz⟩ | ⟨hz, hz2⟩ | ⟨rfl, hz⟩
      · go_wp2
        go_ret
        refine ⟨⟨_, rfl, fun _ => ⟨by rw [HLE.out]; exact hz, fun l hl => ?_⟩⟩, rfl⟩
        obtain ⟨j, hj⟩ := List.getElem?_of_mem hl
        have hjl := (List.getElem?_eq_some_iff.1 hj).1
        exact HZ.out j l (by rw [HLE.out] at hjl; exact hjl) hj
      · go_wp2
        go_ret
        exact ⟨⟨_, rfl, fun e => by first | (cases e; done) | (have := of_decide_eq_false e; omega)⟩, rfl⟩
      · go_wp2
        go_ret
        exact ⟨⟨_, rfl, fun e => by first | (cases e; done) | (have := of_decide_eq_false e; omega)⟩, rfl⟩
end Go.Proofs.Wd

namespace Lb
theorem tz_val {l : List Nat} (ht : Lt l) {j s x : Nat} (hj : j < l.length) (hz : ∀ i, i < j → lm l i = 0) (hx : lm l j = 2 ^ s * x) (ho : x % 2 = 1) : TZ (val l) (32 * j + s) ∧ s < 32 := by
  have hb := lm_BB ht j
  have hs : s < 32 := by
    have h1 : 2 ^ s * 1 ≤ 2 ^ s * x := Nat.mul_le_mul_left _ (by omega)
    rw [Nat.mul_one, ← hx] at h1
    exact (Nat.pow_lt_pow_iff_right (by decide)).1 (Nat.lt_of_le_of_lt h1 (by rw [BB_eq] at hb; simpa using hb))
  refine ⟨?_, hs⟩
  have e0 : val (l.take j) = 0 := by
    rw [val_take (by omega)]
    have : sm (lm l) j = sm (lm l) 0 := sm_ext (Nat.zero_le _) fun i _ hi => hz i hi
    rw [this]; rfl
  have e1 := val_take_drop l j (by omega)
  rw [e0, Nat.zero_add, val_drop hj, hx, BB_pow] at e1
  obtain ⟨y, hy⟩ : ∃ y, val (l.drop (j + 1)) = y := ⟨_, rfl⟩
  rw [hy, show BB = 2 ^ s * (2 * 2 ^ (31 - s)) from by rw [← Nat.pow_succ', ← Nat.pow_add, show s + (31 - s + 1) = 32 from by omega]; rfl, Nat.mul_assoc, ← Nat.mul_add, ← Nat.mul_assoc, ← Nat.pow_add] at e1
  refine ⟨x / 2 + 2 ^ (31 - s) * y, ?_⟩
  rw [e1]
  congr 1
  rw [Nat.mul_add, ← Nat.mul_assoc]
  omega
end Lb
namespace Go.Proofs.Wd
open Go.RowKit Lb

set_option maxHeartbeats 1000000 in
theorem twos_any (A : Option Addr) (n c : Nat) (l : List Nat) (w : World) (h : Rd w A n c l) (ht : Lt l) (h0 : 0 < val l) (hn : n ≤ 1000) :
    ∃ q t : Nat, TZ (val l) (32 * q + t) ∧ t ≤ 31 ∧ q < n ∧ Calls Tryd.prog 59 #[.slice A n c] w fun e w' => e = .returned (.int .i64 ((32 * q + t : Nat) : Int)) ∧ w' = w := by
  obtain ⟨j, hjn, hjz, hj0⟩ : ∃ j, j < n ∧ (∀ i, i < j → lm l i = 0) ∧ lm l j ≠ 0 := by
    have hex : ∃ j, lm l j ≠ 0 := by
      refine Classical.byContradiction fun hc => ?_
      have hz : ∀ i, lm l i = 0 := fun i => Classical.byContradiction fun e => hc ⟨i, e⟩
      have : sm (lm l) l.length = sm (lm l) 0 := sm_ext (Nat.zero_le _) fun i _ _ => hz i
      have e : val l = sm (lm l) l.length := rfl
      rw [e, this] at h0
      simp [sm] at h0
    have hmin : ∀ k, (∃ j, j ≤ k ∧ lm l j ≠ 0) → ∃ j, (∀ i, i < j → lm l i = 0) ∧ lm l j ≠ 0 := by
      intro k
      induction k with
      | zero => rintro ⟨j, hj, e⟩; exact ⟨j, fun i hi => by omega, e⟩
      | succ k ih =>
        rintro ⟨j, hj, e⟩
        by_cases hk : ∃ j, j ≤ k ∧ lm l j ≠ 0
        · exact ih hk
        · exact ⟨j, fun i hi => Classical.byContradiction fun e' => hk ⟨i, by omega, e'⟩, e⟩
    obtain ⟨j0, hj0⟩ := hex
    obtain ⟨j, h1, h2⟩ := hmin j0 ⟨j0, Nat.le_refl _, hj0⟩
    refine ⟨j, ?_, h1, h2⟩
    rw [← h.len]
    exact Nat.lt_of_not_le fun e => h2 (lm_ge e)
  obtain ⟨s, hs⟩ := TZ.exists (lm l j) (by omega)
  obtain ⟨m, hm⟩ := hs
  obtain ⟨htz, hs32⟩ := tz_val ht (s := s) (x := 2 * m + 1) (by rw [h.len]; exact hjn) hjz hm (by omega)
  refine ⟨j, s, htz, by omega, hjn, ?_⟩
  have hb := lm_BB ht j
  have hle := h.le; have hcap := h.cap
  have HJZ := hid hjz; have HM := hid hm; have HB := hid hb
  obtain ⟨d, hd⟩ : ∃ d : Nat → Nat, d = fun i => 2 ^ (s - i) * (2 * m + 1) := ⟨_, rfl⟩
  have hd0 : d 0 = lm l j := by rw [hd, hm]; rfl
  have hds : d s % 2 = 1 := by rw [hd]; simp
  have hdi : ∀ i, i < s → d i % 2 = 0 ∧ d i / 2 = d (i + 1) := fun i hi => by
    rw [hd]
    show 2 ^ (s - i) * (2 * m + 1) % 2 = 0 ∧ 2 ^ (s - i) * (2 * m + 1) / 2 = 2 ^ (s - (i + 1)) * (2 * m + 1)
    rw [show s - i = (s - (i + 1)) + 1 from by omega, Nat.pow_succ', Nat.mul_assoc]
    omega
  have hdl : ∀ i, d i ≤ d 0 := fun i => by
    rw [hd]
    exact Nat.mul_le_mul_right _ (Nat.pow_le_pow_right (by omega) (by omega))
  have HD0 := hid hd0; have HDS := hid hds; have HDI := hid hdi; have HDL := hid hdl
  clear hd hd0 hds hdi hdl
  have HL : Hid (∀ i, lm l i < 4294967296) := hid fun i => lm_BB ht i
  clear hjz hm htz hb h0
  go_enter Tryd.func59, Tryd.ntmps59
  go_wp2
  go_loopw [3, 4] (fun t i wr => ∃ k : Nat, k ≤ j ∧ i = .int .i64 k ∧ t = .int .i64 ((32 * k : Nat) : Int) ∧ wr = w) (fun _ i _ => j - (intOf i).toNat)
  case atStart => exact ⟨0, Nat.zero_le _, rfl, rfl, rfl⟩
  case round =>
    obtain ⟨k, hk, rfl, rfl, rfl⟩ := hrel
    obtain ⟨b, o, rfl, hc⟩ := h.cells k (by omega)
    by_cases hkj : k < j
    · have hz := HJZ.out k hkj
      rw [hz] at hc
      clear hz
      go_wp2
      go_roundw
      case rel => exact ⟨k + 1, by omega, by go_num, by go_num, trivial⟩
      case measure => simp [intOf]; omega
    · obtain rfl : k = j := by omega
      have hlk := HL.out k
      obtain ⟨x, hx⟩ : ∃ x, lm l k = x := ⟨_, rfl⟩
      rw [hx] at hc hj0 hlk
      have HX := hid hx
      clear hx
      have e1 : ((32 * k : Nat) : Int).tdiv 32 = (k : Int) := by rw [Int.tdiv_eq_ediv_of_nonneg (by omega)]; omega
      have e2 : (((32 * k : Nat) : Int) / 32) = (k : Int) := by omega
      have hx2 : ((x : Int) == 0) = false := by simpa using hj0
      go_wp2
      go_loopw [3, 5] (fun t y wr2 => ∃ i : Nat, i ≤ s ∧ t = .int .i64 ((32 * k + i : Nat) : Int) ∧ y = .int .u32 (d i : Nat) ∧ wr2 = wr) (fun t _ _ => 32 * k + s - (intOf t).toNat)
      case atStart => exact ⟨0, Nat.zero_le _, rfl, by rw [HD0.out, HX.out], rfl⟩
      case round =>
        obtain ⟨i, hi, rfl, rfl, rfl⟩ := hrel
        have hdx := HDL.out i
        rw [HD0.out, HX.out] at hdx
        by_cases his : i < s
        · obtain ⟨q1, q2⟩ := HDI.out i his
          obtain ⟨y, hy⟩ : ∃ y, d i = y := ⟨_, rfl⟩
          rw [hy] at q1 q2 hdx ⊢
          have HY := hid q2
          clear q2 hy
          go_wp2
          go_roundw
          case rel => exact ⟨i + 1, by omega, by go_num, by rw [← HY.out]; go_num, trivial⟩
          case measure => simp [intOf]; omega
        · obtain rfl : i = s := by omega
          have q1 := HDS.out
          obtain ⟨y, hy⟩ : ∃ y, d i = y := ⟨_, rfl⟩
          rw [hy] at q1 hdx ⊢
          clear hy
          go_wp2
          go_ret
          exact ⟨rfl, rfl⟩
end Go.Proofs.Wd

namespace Lb
theorem odd_of {x k : Nat} (h : TZ x k) : x / 2 ^ k % 2 = 1 ∧ x / 2 ^ k ≤ x ∧ 0 < x / 2 ^ k := by
  have := h.part.2
  exact ⟨this, Nat.div_le_self _ _, Nat.pos_of_ne_zero fun e => by rw [e] at this; simp at this⟩
/-- What the loop of the reference's Gcd keeps of its numbers. -/
def Bin (G x y : Nat) : Prop := 0 < y ∧ (x = 0 → y = G) ∧ ∀ i j, TZ x i → TZ y j → Nat.gcd (x / 2 ^ i) (y / 2 ^ j) = G
theorem Bin.start {a b i j : Nat} (hi : TZ a i) (hj : TZ b j) : Bin (Nat.gcd (a / 2 ^ i) (b / 2 ^ j)) a b :=
  ⟨hj.pos, fun e => by have := hi.pos; omega, fun i' j' h1 h2 => by rw [h1.unique hi, h2.unique hj]⟩
theorem Bin.turn {G x y : Nat} (hx : x % 2 = 1) (hy : y % 2 = 1) (hg : Nat.gcd x y = G) (hle : y ≤ x) : Bin G (x - y) y := by
  refine ⟨by omega, fun e => ?_, fun i j h1 h2 => ?_⟩
  · have : x = y := by omega
    rw [← hg, this, Nat.gcd_self]
  · have hj : j = 0 := h2.unique (TZ.odd hy)
    rw [hj, Nat.pow_zero, Nat.div_one, Nat.gcd_comm, TZ.gcd_odd hy h1, Nat.gcd_comm, gcd_less hle, hg]
end Lb
namespace Go.Proofs.Wd
open Go.RowKit Lb

theorem rdown_v {W : World} {m : Nat} {A : Option Addr} {n c : Nat} {x q t : Nat} (h : NatV W (.slice A n c) x) (hx : x < BB ^ m) (hm : m ≤ 1000) (htt : t ≤ 31) (hq : q < n) : Calls Tryd.prog 60 #[.slice A n c, .int .i64 ((32 * q + t : Nat) : Int)] W (RetN W (x / 2 ^ (32 * q + t))) := by
  obtain ⟨A1, n1, c1, l1, e1, h1, h2⟩ := h
  cases e1
  have hn : n ≤ m := is_len h1 h2 hx
  have := rdown_any A n c l1 q t W h2 h1.lt htt (by omega) (by omega) (by omega)
  rw [h1.val] at this
  exact this.mono fun _ _ => RetNat.v
theorem rup_v {W : World} {m : Nat} {A : Option Addr} {n c : Nat} {x q t : Nat} (h : LV W m (.slice A n c) x) (hm : m ≤ 1000) (htt : t ≤ 31) (hq : q ≤ 1000) : Calls Tryd.prog 55 #[.slice A n c, .int .i64 ((32 * q + t : Nat) : Int)] W (RetN W (x * 2 ^ (32 * q + t))) := by
  obtain ⟨A1, n1, c1, l1, e1, h1, h2, h3, rfl⟩ := h
  cases e1
  exact (rup_any A n c l1 q t W h1 h2 htt (by omega) (by omega)).mono fun _ _ => RetNat.v
/-- A call's answer: a difference, that it is well. -/
def RetS (w : World) (x : Nat) : Ending → World → Prop := fun e w' => ∃ v, e = .returned (.tuple #[v, .int .i64 0]) ∧ NatV w' v x ∧ Below w.heap.size w w'
theorem rsub_v {W : World} {m : Nat} {v v' : Value} {a b : Nat} (h : LV W m v a) (h' : LV W m v' b) (hm : m ≤ 1000) (hab : b ≤ a) : Calls Tryd.prog 56 #[v, v'] W (RetS W (a - b)) := by
  obtain ⟨A, n, c, l, rfl, h1, h2, h3, rfl⟩ := h
  obtain ⟨A', n', c', l', rfl, h1', h2', h3', rfl⟩ := h'
  refine (rsub_any A n c l A' n' c' l' W h1 h1' h2 h2' hab (by omega)).mono ?_
  rintro e w' ⟨A1, n1, c1, l1, rfl, i1, r1, hb⟩
  exact ⟨_, rfl, ⟨A1, n1, c1, l1, rfl, i1, r1⟩, hb⟩
theorem twos_v {W : World} {m : Nat} {A : Option Addr} {n c : Nat} {x : Nat} (h : NatV W (.slice A n c) x) (hx : x < BB ^ m) (hm : m ≤ 1000) (h0 : 0 < x) :
    ∃ q t : Nat, TZ x (32 * q + t) ∧ t ≤ 31 ∧ q < n ∧ n ≤ m ∧ Calls Tryd.prog 59 #[.slice A n c] W fun e w' => e = .returned (.int .i64 ((32 * q + t : Nat) : Int)) ∧ w' = W := by
  obtain ⟨A1, n1, c1, l1, e1, h1, h2⟩ := h
  cases e1
  have hn : n ≤ m := is_len h1 h2 hx
  obtain ⟨q, t, k1, k2, k3, k4⟩ := twos_any A n c l1 W h2 h1.lt (by rw [h1.val]; exact h0) (by omega)
  rw [h1.val] at k1
  exact ⟨q, t, k1, k2, k3, hn, k4⟩
theorem NatV.rdv {W : World} {v : Value} {x : Nat} (h : NatV W v x) : rdv W v = x := by
  obtain ⟨A1, n1, c1, l1, rfl, h1, h2⟩ := h
  exact h2.rdv h1

/-- What the loop keeps. -/
def RgI (w : World) (m G : Nat) (u v : Value) (W : World) : Prop := ∃ A n c A' n' c' x y, u = .slice A n c ∧ v = .slice A' n' c' ∧ NatV W (.slice A n c) x ∧ NatV W (.slice A' n' c') y ∧ x < BB ^ m ∧ y < BB ^ m ∧ Bin G x y ∧ Below w.heap.size w W

set_option maxHeartbeats 2000000 in
theorem r4gcd_v {W : World} {m : Nat} {v v' : Value} {a b : Nat} (h : LV W m v a) (h' : LV W m v' b) (hm : m ≤ 1000) : Calls Tryd.prog 24 #[v, v'] W (RetN W (Nat.gcd a b)) := by
  have hla := h.bound; have hlb := h'.bound
  obtain ⟨A0, n0, c0, rfl, -, k1, k2, h⟩ := h.open
  obtain ⟨B0, m0, d0, rfl, -, k3, k4, h'⟩ := h'.open
  go_enter Tryd.func24, Tryd.ntmps24
  go_wp2_with fail
  refine (rtrim_v h (by omega)).mono ?_
  rintro e w1 ⟨va, rfl, ha, b1⟩
  obtain ⟨A, n, c, rfl, za, pa, ia, ja, ha⟩ := ha.open
  go_wp2_with fail
  refine (rtrim_v (h'.below b1) (by omega)).mono ?_
  rintro e w2 ⟨vb, rfl, hb, b2⟩
  obtain ⟨A', n', c', rfl, zb, pb, ib, jb, hb⟩ := hb.open
  have b02 := b1.trans (b2.mono b1.size)
  have ha2 := ha.below b2
  clear h h' ha b1 b2 k1 k2 k3 k4
  by_cases h0 : a = 0 ∨ b = 0
  · have hg : Nat.gcd a b = a + b := by
      rcases h0 with e | e
      · rw [e]; simp
      · rw [e]; simp
    have h00 : n = 0 ∨ (0 < n ∧ n' = 0) := by
      rcases Nat.eq_zero_or_pos n with e | e
      · exact .inl e
      · refine .inr ⟨e, zb (h0.resolve_left fun e' => ?_)⟩
        have := za e'; omega
    have HG := hid hg
    clear za pa zb pb h0 hg
    have ad := radd2_v (ha2.lv hla) (hb.lv hlb) (by omega) 23
    have bS : Below w2.heap.size w2 (w2.alloc (.cells #[.slice A n c, .slice A' n' c'] 23)) := (Below.refl _ w2).alloc (Nat.le_refl _) _
    have HLA := hid hla; have HLB := hid hlb
    clear hla hlb
    rcases h00 with rfl | ⟨e1, rfl⟩
    all_goals
      go_wp2_with fail
      refine ad.mono ?_
      rintro e w4 ⟨vs, rfl, hs, b4⟩
      go_wp2_with fail
      go_ret
      exact ⟨vs, rfl, by rw [HG.out]; exact hs, b02.trans ((bS.trans (b4.mono bS.size)).mono b02.size)⟩
  · have hn0 : 0 < n := pa (by omega)
    have hn0' : 0 < n' := pb (by omega)
    have hnb : ((n : Int) == 0) = false := by simp; omega
    have hnb' : ((n' : Int) == 0) = false := by simp; omega
    obtain ⟨q, t, hz, ht, hq, hnm, htw⟩ := twos_v ha2 hla hm (by omega)
    obtain ⟨q', t', hz', ht', hq', hnm', htw'⟩ := twos_v hb hlb hm (by omega)
    have hgcd := hz.gcd hz'
    have hbin := Bin.start hz hz'
    have hG0 : Nat.gcd (a / 2 ^ (32 * q + t)) (b / 2 ^ (32 * q' + t')) < BB ^ m := gcd_lt (Nat.lt_of_le_of_lt (Nat.div_le_self _ _) hla) (Nat.lt_of_le_of_lt (Nat.div_le_self _ _) hlb)
    obtain ⟨G, hG⟩ : ∃ G, Nat.gcd (a / 2 ^ (32 * q + t)) (b / 2 ^ (32 * q' + t')) = G := ⟨_, rfl⟩
    rw [hG] at hgcd hbin hG0
    obtain ⟨p, s, hs, hps, hpq⟩ : ∃ p s : Nat, s ≤ 31 ∧ p ≤ 1000 ∧ min (32 * q + t) (32 * q' + t') = 32 * p + s := by
      rcases Nat.le_total (32 * q + t) (32 * q' + t') with e | e
      · exact ⟨q, t, ht, by omega, by omega⟩
      · exact ⟨q', t', ht', by omega, by omega⟩
    rw [hpq] at hgcd
    have hmin : min (((32 * q + t : Nat) : Int)) (((32 * q' + t' : Nat) : Int)) = ((32 * p + s : Nat) : Int) := by omega
    have HGC := hid hgcd; have HBI := hid hbin; have HG0 := hid hG0
    obtain ⟨k, hk⟩ : ∃ k, 32 * q + t = k := ⟨_, rfl⟩
    obtain ⟨k', hk'⟩ : ∃ k, 32 * q' + t' = k := ⟨_, rfl⟩
    rw [hk] at htw hmin
    rw [hk'] at htw' hmin
    obtain ⟨K, hK⟩ : ∃ K, 32 * p + s = K := ⟨_, rfl⟩
    rw [hK] at hmin
    have HK := hid hK
    have hK2 : K ≤ 40000 := by omega
    have hk2 : k ≤ 40000 := by omega
    have hk2' : k' ≤ 40000 := by omega
    have HLA := hid hla; have HLB := hid hlb
    clear hgcd hbin hG0 hz hz' hG hpq hk hk' hK za pa zb pb hq hq' ht ht' hnm hnm' h0 hla hlb
    go_wp2_with fail
    refine htw.mono ?_
    rintro e w3 ⟨rfl, rfl⟩
    go_wp2_with fail
    refine htw'.mono ?_
    rintro e w3 ⟨rfl, rfl⟩
    go_wp2
    go_loopw [0, 1] (RgI W m G) (fun u v wr => rdv wr u + rdv wr v)
    case atStart => exact ⟨A, n, c, A', n', c', a, b, rfl, rfl, ha2, hb, HLA.out, HLB.out, HBI.out, b02⟩
    case round =>
      clear ha2 hb b02 hn0 hn0' hnb hnb' htw htw' ia ja ib jb hmin
      obtain ⟨A1, n1, c1, A2, n2, c2, x, y, rfl, rfl, hx, hy, hxl, hyl, hbn, hB⟩ := hrel
      obtain ⟨_, _, _, e1, zx, px, ix, jx, _⟩ := hx.open
      cases e1
      obtain ⟨_, _, _, e1, zy, py, iy, jy, _⟩ := hy.open
      cases e1
      have hy0 := hbn.1
      have HBN := hid hbn
      have HXL := hid hxl; have HYL := hid hyl
      rcases Nat.eq_zero_or_pos n1 with h0 | h0
      · have hx0 : x = 0 := by
          rcases Nat.eq_zero_or_pos x with e | e
          · exact e
          · have := px e; omega
        have hyG := hbn.2.1 hx0
        have HYG := hid hyG
        have hup := rup_v (q := p) (t := s) (hy.lv hyl) hm hs hps
        rw [HK.out] at hup
        subst h0
        clear hbn hxl hyl hx0 hyG zx px zy py
        go_wp2_with fail
        refine hup.mono ?_
        rintro e w5 ⟨v5, rfl, hv5, hb5⟩
        go_wp2_with fail
        go_ret
        exact ⟨v5, rfl, by rw [HGC.out, HK.out, ← HYG.out, Nat.mul_comm]; exact hv5, hB.trans (hb5.mono hB.size)⟩
      · have hx0 : 0 < x := Nat.pos_of_ne_zero fun e => by have := zx e; omega
        obtain ⟨q1, t1, z1, ht1, hq1, hnm1, htw1⟩ := twos_v hx hxl hm hx0
        have hd1 := rdown_v hx hxl hm ht1 hq1
        obtain ⟨o1, o2, o3⟩ := odd_of z1
        obtain ⟨k1, hk1⟩ : ∃ k, 32 * q1 + t1 = k := ⟨_, rfl⟩
        have hk1l : k1 ≤ 40000 := by omega
        rw [hk1] at htw1 hd1 z1 o1 o2 o3
        have Z1 := hid z1
        obtain ⟨X, hX⟩ : ∃ X, x / 2 ^ k1 = X := ⟨_, rfl⟩
        have HX := hid hX
        rw [hX] at hd1 o1 o2 o3
        clear z1 hX hk1 ht1 hq1 hnm1 hbn zx px zy py
        have HO1 := hid o1
        have hrx := hx.rdv; have hry := hy.rdv
        have HRX := hid hrx; have HRY := hid hry
        clear hrx hry o1
        go_wp2_with fail
        refine htw1.mono ?_
        rintro e w5 ⟨rfl, rfl⟩
        go_wp2_with fail
        refine hd1.mono ?_
        rintro e w6 ⟨v6, rfl, h6, b6⟩
        obtain ⟨A6, n6, c6, rfl, z6, p6, i6, j6, h6⟩ := h6.open
        have hy6 := hy.below b6
        obtain ⟨q2, t2, z2, ht2, hq2, hnm2, htw2⟩ := twos_v hy6 hyl hm hy0
        have hd2 := rdown_v hy6 hyl hm ht2 hq2
        obtain ⟨o4, o5, o6⟩ := odd_of z2
        obtain ⟨k2, hk2⟩ : ∃ k, 32 * q2 + t2 = k := ⟨_, rfl⟩
        have hk2l : k2 ≤ 40000 := by omega
        rw [hk2] at htw2 hd2 z2 o4 o5 o6
        have Z2 := hid z2
        obtain ⟨Y, hY⟩ : ∃ Y, y / 2 ^ k2 = Y := ⟨_, rfl⟩
        have HY := hid hY
        rw [hY] at hd2 o4 o5 o6
        clear z2 hY hk2 ht2 hq2 hnm2 htw1 hd1 z6 p6
        have HO4 := hid o4
        clear o4
        go_wp2_with fail
        refine htw2.mono ?_
        rintro e w7 ⟨rfl, rfl⟩
        go_wp2_with fail
        refine hd2.mono ?_
        rintro e w8 ⟨v8, rfl, h8, b8⟩
        obtain ⟨A8, n8, c8, rfl, z8, p8, i8, j8, h8⟩ := h8.open
        have h68 := h6.below b8
        have b68 := b6.trans (b8.mono b6.size)
        have hB8 := hB.trans (b68.mono hB.size)
        have hXl : X < BB ^ m := Nat.lt_of_le_of_lt o2 HXL.out
        have hYl : Y < BB ^ m := Nat.lt_of_le_of_lt o5 HYL.out
        have hXY : Nat.gcd X Y = G := by rw [← HX.out, ← HY.out]; exact HBN.out.2.2 _ _ Z1.out Z2.out
        have HXY := hid hXY
        obtain ⟨cz, hcz⟩ : ∃ cz, cmpOf X Y = cz := ⟨_, rfl⟩
        have hc1 := rcmp_v (h68.lv hXl) (h8.lv hYl)
        have hcl : cz < 0 ↔ X < Y := by
          rw [← hcz]
          unfold cmpOf
          split
          · exact ⟨fun _ => by assumption, fun _ => by omega⟩
          · split
            · exact ⟨fun h => by omega, fun h => by omega⟩
            · exact ⟨fun h => by omega, fun h => by omega⟩
        rw [hcz] at hc1
        clear htw2 hd2 z8 p8 h6 hy6 hx hy hXY hcz hxl hyl
        have HXl := hid hXl; have HYl := hid hYl
        clear hXl hYl
        rcases Nat.lt_or_ge X Y with hlt | hge
        · have hcz : cz < 0 := hcl.2 hlt
          have hsb := rsub_v (h8.lv HYl.out) (h68.lv HXl.out) hm (Nat.le_of_lt hlt)
          have hbt := Bin.turn (G := G) HO4.out HO1.out (by rw [Nat.gcd_comm]; exact HXY.out) (Nat.le_of_lt hlt)
          have HBT := hid hbt
          clear hbt hcl
          go_wp2_with fail
          refine hc1.mono ?_
          rintro e w9 ⟨rfl, rfl⟩
          go_wp2_with fail
          refine hsb.mono ?_
          rintro e w10 ⟨v10, rfl, h10, b10⟩
          obtain ⟨A10, n10, c10, rfl, z10, p10, i10, j10, h10⟩ := h10.open
          clear z10 p10
          go_wp2_with fail
          refine ⟨⟨A10, n10, c10, A6, n6, c6, Y - X, X, rfl, rfl, h10, h68.below b10, Nat.lt_of_le_of_lt (Nat.sub_le _ _) HYl.out, HXl.out, HBT.out, hB8.trans (b10.mono hB8.size)⟩, ?_⟩
          show rdv _ _ + rdv _ _ < rdv _ _ + rdv _ _
          rw [h10.rdv, (h68.below b10).rdv, HRX.out, HRY.out]
          omega
        · have hcz : ¬ cz < 0 := fun e => by have := hcl.1 e; omega
          have hsb := rsub_v (h68.lv HXl.out) (h8.lv HYl.out) hm hge
          have hbt := Bin.turn (G := G) HO1.out HO4.out HXY.out hge
          have HBT := hid hbt
          clear hbt hcl
          go_wp2_with fail
          refine hc1.mono ?_
          rintro e w9 ⟨rfl, rfl⟩
          go_wp2_with fail
          refine hsb.mono ?_
          rintro e w10 ⟨v10, rfl, h10, b10⟩
          obtain ⟨A10, n10, c10, rfl, z10, p10, i10, j10, h10⟩ := h10.open
          clear z10 p10
          go_wp2_with fail
          refine ⟨⟨A10, n10, c10, A8, n8, c8, X - Y, Y, rfl, rfl, h10, h8.below b10, Nat.lt_of_le_of_lt (Nat.sub_le _ _) HXl.out, HYl.out, HBT.out, hB8.trans (b10.mono hB8.size)⟩, ?_⟩
          show rdv _ _ + rdv _ _ < rdv _ _ + rdv _ _
          rw [h10.rdv, (h8.below b10).rdv, HRX.out, HRY.out]
          omega
end Go.Proofs.Wd

namespace Go.Proofs.Wd
open Go.RowKit Lb

set_option maxHeartbeats 1000000 in
theorem r4all_v {W : World} {m : Nat} {v : Value} {xs : List Nat} (h : LSV W m v xs) (hm : m ≤ 1000) (hn : xs.length ≤ 1000) : Calls Tryd.prog 26 #[v] W (RetN W (xs.foldl Nat.gcd 0)) := by
  obtain ⟨A, c, ls, rfl, hR, hl, hv⟩ := h
  have hlen : ls.length = xs.length := by rw [← hv, List.length_map]
  have HL := hid hlen; have HV := hid hv; have HM := hid hl
  clear hlen hv hl
  obtain ⟨N, hN⟩ : ∃ N, xs.length = N := ⟨_, rfl⟩
  rw [hN] at hn hR ⊢
  have HN := hid hN
  clear hN
  go_enter Tryd.func26, Tryd.ntmps26
  go_wp2
  go_loopw [3, 4] (GallI W m xs) (fun _ i _ => N - (intOf i).toNat)
  case atStart => exact ⟨0, Nat.zero_le _, rfl, NatV.nil W, Nat.pow_pos BB_pos, Below.refl _ _⟩
  case round =>
    obtain ⟨k, hk, rfl, hg, hgl, hB⟩ := hrel
    rw [HN.out] at hk
    obtain ⟨Ag, ng, cg, lg, rfl, hig, hrg⟩ := hg
    by_cases hkn : k < N
    · obtain ⟨b, o, Ai, ni, ci, li, rfl, hc, hli, hri, hlti, hni⟩ := (hR.below hB).cells k hkn
      have hmem : li ∈ ls := List.mem_of_getElem? hli
      have hlim := HM.out li hmem
      have hx : xs[k]? = some (val li) := by rw [← HV.out, List.getElem?_map, hli]; rfl
      have hstep : (xs.take (k + 1)).foldl Nat.gcd 0 = Nat.gcd ((xs.take k).foldl Nat.gcd 0) (val li) := by
        have hk2 : k < xs.length := by rw [HN.out]; exact hkn
        rw [List.take_succ_eq_append_getElem hk2, List.foldl_append]
        rw [List.getElem?_eq_getElem hk2] at hx
        injection hx with hx
        show Nat.gcd _ xs[k] = _
        rw [hx]
      obtain ⟨g, hge⟩ : ∃ g, (xs.take k).foldl Nat.gcd 0 = g := ⟨_, rfl⟩
      rw [hge] at hstep hig hgl
      have hvl : val li < BB ^ m := Nat.lt_of_lt_of_le (val_lt hlti) (Nat.pow_le_pow_right BB_pos hlim)
      have hgc := r4gcd_v (NatV.lv ⟨Ag, ng, cg, lg, rfl, hig, hrg⟩ hgl) (LV.mk hri hlti (m := m) (by rw [← hri.len]; exact hlim)) hm
      have hlt2 := gcd_lt hgl hvl
      have HS := hid hstep
      clear hx hstep hge
      go_wp2_with fail
      refine hgc.mono ?_
      rintro e w5 ⟨v5, rfl, hv5, hb5⟩
      go_wp2_with fail
      exact ⟨⟨k + 1, by rw [HN.out]; omega, by go_num, by rw [HS.out]; exact hv5, by rw [HS.out]; exact hlt2, hB.trans (hb5.mono hB.size)⟩, by simp [intOf]; omega⟩
    · obtain rfl : k = N := by omega
      have hall : xs.take k = xs := List.take_of_length_le (by rw [HN.out]; omega)
      rw [hall] at hig
      clear hall
      go_wp2
      go_ret
      exact ⟨_, rfl, ⟨Ag, ng, cg, lg, rfl, hig, hrg⟩, hB⟩

set_option maxHeartbeats 1000000 in
theorem r4reduce_v {W : World} {m : Nat} {v v' : Value} {a b : Nat} (h : LV W m v a) (h' : LV W m v' b) (hm : m ≤ 1000) : Calls Tryd.prog 23 #[v, v'] W (RetN2 W (a / Nat.gcd a b) (b / Nat.gcd a b)) := by
  have hgc := r4gcd_v h h' hm
  have hgl := gcd_lt h.bound h'.bound
  obtain ⟨g, hg⟩ : ∃ g, Nat.gcd a b = g := ⟨_, rfl⟩
  rw [hg] at hgc hgl ⊢
  clear hg
  rcases Nat.eq_zero_or_pos g with h0 | h0
  · have HZ := hid h0
    go_enter Tryd.func23, Tryd.ntmps23
    go_wp2_with fail
    refine hgc.mono ?_
    rintro e w4 ⟨v4, rfl, ⟨A4, n4, c4, l4, rfl, hi4, hr4⟩, hb4⟩
    obtain rfl : n4 = 0 := by rw [← hr4.len]; exact hi4.zero_iff.1 HZ.out
    go_wp2_with fail
    go_ret2
    exact ⟨_, _, rfl, ⟨none, 0, 0, [], rfl, by rw [HZ.out, Nat.div_zero]; exact Is.nil, Rd.nil_ _⟩, ⟨none, 0, 0, [], rfl, by rw [HZ.out, Nat.div_zero]; exact Is.nil, Rd.nil_ _⟩, hb4⟩
  · go_enter Tryd.func23, Tryd.ntmps23
    go_wp2_with fail
    refine hgc.mono ?_
    rintro e w4 ⟨v4, rfl, hv4, hb4⟩
    obtain ⟨A4, n4, c4, rfl, z4, p4, i4, j4, hv4⟩ := hv4.open
    have hn4 : 0 < n4 := p4 h0
    clear z4 p4
    go_wp2_with fail
    refine (rdiv_v (h.below hb4) (hv4.lv hgl) (by omega) h0).mono ?_
    rintro e w5 ⟨v5, v6, rfl, hv5, hv6, hb5⟩
    have hb45 := hb4.trans (hb5.mono hb4.size)
    go_wp2_with fail
    refine (rdiv_v (h'.below hb45) ((hv4.below hb5).lv hgl) (by omega) h0).mono ?_
    rintro e w6 ⟨v7, v8, rfl, hv7, hv8, hb6⟩
    go_wp2_with fail
    go_ret2
    exact ⟨_, _, rfl, hv5.below hb6, hv7, hb45.trans (hb6.mono hb45.size)⟩

theorem r4lcm_v {W : World} {m : Nat} {v v' : Value} {a b : Nat} (h : LV W m v a) (h' : LV W m v' b) (hm : m ≤ 1000) : Calls Tryd.prog 27 #[v, v'] W (RetN W (a / Nat.gcd a b * b)) := by
  have hr := r4reduce_v h h' hm
  have hlt : a / Nat.gcd a b < BB ^ m := Nat.lt_of_le_of_lt (Nat.div_le_self _ _) h.bound
  obtain ⟨x, hx⟩ : ∃ x, a / Nat.gcd a b = x := ⟨_, rfl⟩
  rw [hx] at hr hlt ⊢
  go_enter Tryd.func27, Tryd.ntmps27
  go_wp2_with fail
  refine hr.mono ?_
  rintro e w4 ⟨v4, v5, rfl, hv4, hv5, hb4⟩
  go_wp2_with fail
  refine (rmul_v (hv4.lv hlt) (h'.below hb4) (by omega)).mono ?_
  rintro e w6 ⟨v6, rfl, hv6, hb6⟩
  go_wp2_with fail
  go_ret
  exact ⟨_, rfl, hv6, hb4.trans (hb6.mono hb4.size)⟩

theorem is_one' {l : List Nat} {x : Nat} (h : Is l x) : (x = 1 ∧ l = [1]) ∨ (x ≠ 1 ∧ (l.length ≠ 1 ∨ (l.length = 1 ∧ lm l 0 ≠ 1))) := by
  by_cases e : x = 1
  · left
    exact ⟨e, by have := is_one h (by omega) (by rw [e]; decide); rw [this, e]⟩
  · right
    refine ⟨e, ?_⟩
    by_cases h1 : l.length = 1
    · right
      refine ⟨h1, fun h2 => e ?_⟩
      obtain ⟨y, rfl⟩ := List.length_eq_one_iff.1 h1
      rw [← h.val]
      have : y = 1 := h2
      rw [this]; decide
    · exact .inl h1

set_option maxHeartbeats 1000000 in
theorem r4coprime_v {W : World} {m : Nat} {v v' : Value} {a b : Nat} (h : LV W m v a) (h' : LV W m v' b) (hm : m ≤ 1000) : Calls Tryd.prog 28 #[v, v'] W fun e w' => e = .returned (.bool (Nat.gcd a b == 1)) ∧ Below W.heap.size W w' := by
  have hgc := r4gcd_v h h' hm
  obtain ⟨g, hg⟩ : ∃ g, Nat.gcd a b = g := ⟨_, rfl⟩
  rw [hg] at hgc ⊢
  clear hg
  obtain ⟨r, hr⟩ : ∃ x, (g == 1) = x := ⟨_, rfl⟩
  rw [hr]
  have HR := hid hr
  clear hr
  go_enter Tryd.func28, Tryd.ntmps28
  go_wp2_with fail
  refine hgc.mono ?_
  rintro e w4 ⟨v4, rfl, ⟨A4, n4, c4, l4, rfl, hi4, hr4⟩, hb4⟩
  have hle := hr4.le; have hcap := hr4.cap; have hln := hr4.len
  rcases is_one' hi4 with ⟨e1, rfl⟩ | ⟨e1, e2 | ⟨e2, e3⟩⟩
  · obtain rfl : n4 = 1 := by rw [← hln]; rfl
    obtain ⟨b, o, rfl, hc⟩ := hr4.cells 0 (by omega)
    rw [Nat.add_zero] at hc
    obtain rfl : r = true := by rw [← HR.out, e1]; rfl
    rw [show (lm [1] 0 : Nat) = 1 from rfl] at hc
    clear e1 hln
    go_wp2_with fail
    go_ret
    exact ⟨rfl, hb4⟩
  · obtain rfl : r = false := by rw [← HR.out]; simpa using e1
    have hnb : ((n4 : Int) == 1) = false := by simp; omega
    clear e1 e2 hln
    go_wp2_with fail
    go_ret
    exact ⟨rfl, hb4⟩
  · obtain rfl : n4 = 1 := by omega
    obtain ⟨b, o, rfl, hc⟩ := hr4.cells 0 (by omega)
    rw [Nat.add_zero] at hc
    obtain rfl : r = false := by rw [← HR.out]; simpa using e1
    obtain ⟨y, hy⟩ : ∃ y, lm l4 0 = y := ⟨_, rfl⟩
    rw [hy] at hc e3
    have hyb : ((y : Int) == 1) = false := by simp; omega
    clear e1 e2 hln hy
    go_wp2_with fail
    go_ret
    exact ⟨rfl, hb4⟩
end Go.Proofs.Wd

namespace Go.Proofs.Wd
open Go.RowKit Lb

set_option maxHeartbeats 4000000 in
theorem tells_any (A : Option Addr) (n c : Nat) (l : List Nat) (A' : Option Addr) (n' c' : Nat) (l' : List Nat) (A'' : Option Addr) (n'' c'' : Nat) (ls : List (List Nat)) (w : World) (h : Rd w A n c l) (ht : Lt l) (h' : Rd w A' n' c' l') (ht' : Lt l') (hN : n'' ≤ c'' ∧ c'' ≤ 9223372036854775807 ∧ Nds w A'' n'' ls) (hT : Tab w) :
    Calls Tryd.prog 6 #[.slice A n c, .slice A' n' c', .slice A'' n'' c''] w fun e w' => e = .returned (.bool true) ∧ Below w.heap.size w w' := by
  have hle := h.le; have hcap := h.cap; have hle' := h'.le; have hcap' := h'.cap
  obtain ⟨hle'', hcap'', hls⟩ := hN
  obtain ⟨w1, hw1⟩ : ∃ w1, w.alloc (.cells #[.slice A n c, .slice A' n' c'] 23) = w1 := ⟨_, rfl⟩
  have d0_1 : Below w.heap.size w w1 := by rw [← hw1]; exact (Below.refl _ w).alloc (Nat.le_refl _) _
  have hgr := r4great_any _ 2 2 _ _ (Nds.two h ht h' ht' 23) (by decide) (by decide)
  have hgl := r4great_any A'' n'' c'' ls w1 (hls.below d0_1) hle'' hcap''
  rw [hw1] at hgr
  go_enter Tryd.func6, Tryd.ntmps6
  go_wp2_with fail
  refine hgr.mono ?_
  rintro e w2 ⟨⟨g, rfl, hg⟩, rfl⟩
  rcases g with _ | _
  rotate_left
  · clear hg
    go_wp2_with fail
    refine (wakes4_any _ (hT.below d0_1)).mono ?_
    rintro e w3 ⟨rfl, b3⟩
    go_wp2_with fail
    go_ret
    exact ⟨rfl, d0_1.trans (b3.mono d0_1.size)⟩
  have hf := hg rfl
  clear hg
  go_wp2_with fail
  refine hgl.mono ?_
  rintro e w3 ⟨⟨g, rfl, hg⟩, rfl⟩
  rcases g with _ | _
  rotate_left
  · clear hg
    go_wp2_with fail
    refine (wakes4_any _ (hT.below d0_1)).mono ?_
    rintro e w3 ⟨rfl, b3⟩
    go_wp2_with fail
    go_ret
    exact ⟨rfl, d0_1.trans (b3.mono d0_1.size)⟩
  have hf2 := hg rfl
  clear hg hgr hgl hw1
  have hf1 := hf.2 l (by simp)
  have hf3 := hf.2 l' (by simp)
  have hln := h.len; have hln' := h'.len; have hln'' := hls.len
  have la : LV w3 12 (.slice A n c) (val l) := (LV.mk h ht (by omega)).below d0_1
  have lb : LV w3 12 (.slice A' n' c') (val l') := (LV.mk h' ht' (by omega)).below d0_1
  have lz : LSV w3 12 (.slice A'' n'' c'') (ls.map val) := ⟨A'', c'', ls, by rw [List.length_map, hln''], by rw [List.length_map, hln'']; exact ((hls.below d0_1).rds fun x hx => by have := hf2.2 x hx; omega), hf2.2, rfl⟩
  have hxl : (ls.map val).length ≤ 1000 := by rw [List.length_map]; have := hf2.1; omega
  have hT3 := hT.below d0_1
  obtain ⟨a, ha⟩ : ∃ a, val l = a := ⟨_, rfl⟩
  obtain ⟨b, hb⟩ : ∃ b, val l' = b := ⟨_, rfl⟩
  obtain ⟨xs, hx⟩ : ∃ xs, ls.map val = xs := ⟨_, rfl⟩
  rw [ha] at la
  rw [hb] at lb
  rw [hx] at lz hxl
  obtain ⟨r, hr⟩ : ∃ r, (Nat.gcd a b == 1) = r := ⟨_, rfl⟩
  have hrr : (r == r) = true := beq_self_eq_true r
  have hcp := fun (W : World) (p : LV W 12 (.slice A n c) a) (q : LV W 12 (.slice A' n' c') b) (t : Tab W) => coprime_v p q (by decide) t
  have hcq := fun (W : World) (p : LV W 12 (.slice A n c) a) (q : LV W 12 (.slice A' n' c') b) => r4coprime_v p q (by decide)
  rw [hr] at hcp hcq
  have HCP := hid hcp; have HCQ := hid hcq
  clear h ht h' ht' hls hT ha hb hx hf hf1 hf2 hf3 hln hln' hln'' hr hcp hcq
  go_wp2_with fail
  refine (reduce_v la lb (by decide) hT3).mono ?_
  rintro e w1 ⟨vr1, vr2, rfl, hr1, hr2, b1⟩
  have k0_1 := b1
  go_wp2_with fail
  refine (r4reduce_v (la.below k0_1) (lb.below k0_1) (by decide)).mono ?_
  rintro e w2 ⟨vr3, vr4, rfl, hr3, hr4, b2⟩
  have k0_2 := k0_1.trans (b2.mono k0_1.size)
  have k1_2 := b2
  go_wp2_with fail
  refine (gcd_v (la.below k0_2) (lb.below k0_2) (by decide) (hT3.below k0_2)).mono ?_
  rintro e w3 ⟨vg, rfl, hg, b3⟩
  have k0_3 := k0_2.trans (b3.mono k0_2.size)
  have k1_3 := k1_2.trans (b3.mono k1_2.size)
  have k2_3 := b3
  go_wp2_with fail
  refine (r4gcd_v (la.below k0_3) (lb.below k0_3) (by decide)).mono ?_
  rintro e w4 ⟨vg2, rfl, hg2, b4⟩
  have k0_4 := k0_3.trans (b4.mono k0_3.size)
  have k1_4 := k1_3.trans (b4.mono k1_3.size)
  have k2_4 := k2_3.trans (b4.mono k2_3.size)
  have k3_4 := b4
  go_wp2_with fail
  refine (r4same_t (hg.below k3_4) hg2 rfl).mono ?_
  rintro e w5 ⟨rfl, b5⟩
  have k0_5 := k0_4.trans (b5.mono k0_4.size)
  have k1_5 := k1_4.trans (b5.mono k1_4.size)
  have k2_5 := k2_4.trans (b5.mono k2_4.size)
  have k3_5 := k3_4.trans (b5.mono k3_4.size)
  have k4_5 := b5
  go_wp2_with fail
  refine (gall_v (lz.below k0_5) (by decide) hxl (hT3.below k0_5)).mono ?_
  rintro e w6 ⟨vz, rfl, hz, b6⟩
  have k0_6 := k0_5.trans (b6.mono k0_5.size)
  have k1_6 := k1_5.trans (b6.mono k1_5.size)
  have k2_6 := k2_5.trans (b6.mono k2_5.size)
  have k3_6 := k3_5.trans (b6.mono k3_5.size)
  have k4_6 := k4_5.trans (b6.mono k4_5.size)
  have k5_6 := b6
  go_wp2_with fail
  refine (r4all_v (lz.below k0_6) (by decide) hxl).mono ?_
  rintro e w7 ⟨vz2, rfl, hz2, b7⟩
  have k0_7 := k0_6.trans (b7.mono k0_6.size)
  have k1_7 := k1_6.trans (b7.mono k1_6.size)
  have k2_7 := k2_6.trans (b7.mono k2_6.size)
  have k3_7 := k3_6.trans (b7.mono k3_6.size)
  have k4_7 := k4_6.trans (b7.mono k4_6.size)
  have k5_7 := k5_6.trans (b7.mono k5_6.size)
  have k6_7 := b7
  go_wp2_with fail
  refine (r4same_t (hz.below k6_7) hz2 rfl).mono ?_
  rintro e w8 ⟨rfl, b8⟩
  have k0_8 := k0_7.trans (b8.mono k0_7.size)
  have k1_8 := k1_7.trans (b8.mono k1_7.size)
  have k2_8 := k2_7.trans (b8.mono k2_7.size)
  have k3_8 := k3_7.trans (b8.mono k3_7.size)
  have k4_8 := k4_7.trans (b8.mono k4_7.size)
  have k5_8 := k5_7.trans (b8.mono k5_7.size)
  have k6_8 := k6_7.trans (b8.mono k6_7.size)
  have k7_8 := b8
  go_wp2_with fail
  refine (r4same_t (hr1.below k1_8) (hr3.below k2_8) rfl).mono ?_
  rintro e w9 ⟨rfl, b9⟩
  have k0_9 := k0_8.trans (b9.mono k0_8.size)
  have k1_9 := k1_8.trans (b9.mono k1_8.size)
  have k2_9 := k2_8.trans (b9.mono k2_8.size)
  have k3_9 := k3_8.trans (b9.mono k3_8.size)
  have k4_9 := k4_8.trans (b9.mono k4_8.size)
  have k5_9 := k5_8.trans (b9.mono k5_8.size)
  have k6_9 := k6_8.trans (b9.mono k6_8.size)
  have k7_9 := k7_8.trans (b9.mono k7_8.size)
  have k8_9 := b9
  go_wp2_with fail
  refine (r4same_t (hr2.below k1_9) (hr4.below k2_9) rfl).mono ?_
  rintro e w10 ⟨rfl, b10⟩
  have k0_10 := k0_9.trans (b10.mono k0_9.size)
  have k1_10 := k1_9.trans (b10.mono k1_9.size)
  have k2_10 := k2_9.trans (b10.mono k2_9.size)
  have k3_10 := k3_9.trans (b10.mono k3_9.size)
  have k4_10 := k4_9.trans (b10.mono k4_9.size)
  have k5_10 := k5_9.trans (b10.mono k5_9.size)
  have k6_10 := k6_9.trans (b10.mono k6_9.size)
  have k7_10 := k7_9.trans (b10.mono k7_9.size)
  have k8_10 := k8_9.trans (b10.mono k8_9.size)
  have k9_10 := b10
  go_wp2_with fail
  refine (lcm_v (la.below k0_10) (lb.below k0_10) (by decide) (hT3.below k0_10)).mono ?_
  rintro e w11 ⟨vm, rfl, hm, b11⟩
  have k0_11 := k0_10.trans (b11.mono k0_10.size)
  have k1_11 := k1_10.trans (b11.mono k1_10.size)
  have k2_11 := k2_10.trans (b11.mono k2_10.size)
  have k3_11 := k3_10.trans (b11.mono k3_10.size)
  have k4_11 := k4_10.trans (b11.mono k4_10.size)
  have k5_11 := k5_10.trans (b11.mono k5_10.size)
  have k6_11 := k6_10.trans (b11.mono k6_10.size)
  have k7_11 := k7_10.trans (b11.mono k7_10.size)
  have k8_11 := k8_10.trans (b11.mono k8_10.size)
  have k9_11 := k9_10.trans (b11.mono k9_10.size)
  have k10_11 := b11
  go_wp2_with fail
  refine (r4lcm_v (la.below k0_11) (lb.below k0_11) (by decide)).mono ?_
  rintro e w12 ⟨vm2, rfl, hm2, b12⟩
  have k0_12 := k0_11.trans (b12.mono k0_11.size)
  have k1_12 := k1_11.trans (b12.mono k1_11.size)
  have k2_12 := k2_11.trans (b12.mono k2_11.size)
  have k3_12 := k3_11.trans (b12.mono k3_11.size)
  have k4_12 := k4_11.trans (b12.mono k4_11.size)
  have k5_12 := k5_11.trans (b12.mono k5_11.size)
  have k6_12 := k6_11.trans (b12.mono k6_11.size)
  have k7_12 := k7_11.trans (b12.mono k7_11.size)
  have k8_12 := k8_11.trans (b12.mono k8_11.size)
  have k9_12 := k9_11.trans (b12.mono k9_11.size)
  have k10_12 := k10_11.trans (b12.mono k10_11.size)
  have k11_12 := b12
  go_wp2_with fail
  refine (r4same_t (hm.below k11_12) hm2 rfl).mono ?_
  rintro e w13 ⟨rfl, b13⟩
  have k0_13 := k0_12.trans (b13.mono k0_12.size)
  have k1_13 := k1_12.trans (b13.mono k1_12.size)
  have k2_13 := k2_12.trans (b13.mono k2_12.size)
  have k3_13 := k3_12.trans (b13.mono k3_12.size)
  have k4_13 := k4_12.trans (b13.mono k4_12.size)
  have k5_13 := k5_12.trans (b13.mono k5_12.size)
  have k6_13 := k6_12.trans (b13.mono k6_12.size)
  have k7_13 := k7_12.trans (b13.mono k7_12.size)
  have k8_13 := k8_12.trans (b13.mono k8_12.size)
  have k9_13 := k9_12.trans (b13.mono k9_12.size)
  have k10_13 := k10_12.trans (b13.mono k10_12.size)
  have k11_13 := k11_12.trans (b13.mono k11_12.size)
  have k12_13 := b13
  go_wp2_with fail
  refine (HCP.out _ (la.below k0_13) (lb.below k0_13) (hT3.below k0_13)).mono ?_
  rintro e w14 ⟨rfl, b14⟩
  have k0_14 := k0_13.trans (b14.mono k0_13.size)
  have k1_14 := k1_13.trans (b14.mono k1_13.size)
  have k2_14 := k2_13.trans (b14.mono k2_13.size)
  have k3_14 := k3_13.trans (b14.mono k3_13.size)
  have k4_14 := k4_13.trans (b14.mono k4_13.size)
  have k5_14 := k5_13.trans (b14.mono k5_13.size)
  have k6_14 := k6_13.trans (b14.mono k6_13.size)
  have k7_14 := k7_13.trans (b14.mono k7_13.size)
  have k8_14 := k8_13.trans (b14.mono k8_13.size)
  have k9_14 := k9_13.trans (b14.mono k9_13.size)
  have k10_14 := k10_13.trans (b14.mono k10_13.size)
  have k11_14 := k11_13.trans (b14.mono k11_13.size)
  have k12_14 := k12_13.trans (b14.mono k12_13.size)
  have k13_14 := b14
  go_wp2_with fail
  refine (HCQ.out _ (la.below k0_14) (lb.below k0_14)).mono ?_
  rintro e w15 ⟨rfl, b15⟩
  have k0_15 := k0_14.trans (b15.mono k0_14.size)
  have k1_15 := k1_14.trans (b15.mono k1_14.size)
  have k2_15 := k2_14.trans (b15.mono k2_14.size)
  have k3_15 := k3_14.trans (b15.mono k3_14.size)
  have k4_15 := k4_14.trans (b15.mono k4_14.size)
  have k5_15 := k5_14.trans (b15.mono k5_14.size)
  have k6_15 := k6_14.trans (b15.mono k6_14.size)
  have k7_15 := k7_14.trans (b15.mono k7_14.size)
  have k8_15 := k8_14.trans (b15.mono k8_14.size)
  have k9_15 := k9_14.trans (b15.mono k9_14.size)
  have k10_15 := k10_14.trans (b15.mono k10_14.size)
  have k11_15 := k11_14.trans (b15.mono k11_14.size)
  have k12_15 := k12_14.trans (b15.mono k12_14.size)
  have k13_15 := k13_14.trans (b15.mono k13_14.size)
  have k14_15 := b15
  go_wp2_with fail
  refine (wakes4_any _ (hT3.below k0_15)).mono ?_
  rintro e w16 ⟨rfl, b16⟩
  have k0_16 := k0_15.trans (b16.mono k0_15.size)
  have k1_16 := k1_15.trans (b16.mono k1_15.size)
  have k2_16 := k2_15.trans (b16.mono k2_15.size)
  have k3_16 := k3_15.trans (b16.mono k3_15.size)
  have k4_16 := k4_15.trans (b16.mono k4_15.size)
  have k5_16 := k5_15.trans (b16.mono k5_15.size)
  have k6_16 := k6_15.trans (b16.mono k6_15.size)
  have k7_16 := k7_15.trans (b16.mono k7_15.size)
  have k8_16 := k8_15.trans (b16.mono k8_15.size)
  have k9_16 := k9_15.trans (b16.mono k9_15.size)
  have k10_16 := k10_15.trans (b16.mono k10_15.size)
  have k11_16 := k11_15.trans (b16.mono k11_15.size)
  have k12_16 := k12_15.trans (b16.mono k12_15.size)
  have k13_16 := k13_15.trans (b16.mono k13_15.size)
  have k14_16 := k14_15.trans (b16.mono k14_15.size)
  have k15_16 := b16
  go_wp2_with fail
  go_ret
  exact ⟨rfl, d0_1.trans (k0_16.mono d0_1.size)⟩
end Go.Proofs.Wd
