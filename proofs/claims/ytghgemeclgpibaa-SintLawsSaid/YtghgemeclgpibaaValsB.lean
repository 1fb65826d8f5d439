/- Integers as values: bounds, rows of integers, sums and products; what a law's same says. -/
import Derived.Test.YtghgemeclgpibaaSintJ
import Derived.Test.YtghgemeclgpibaaLaw5B
namespace Go.Proofs.Wd
open Go.RowKit Lb

/-- Bounded by m limbs. -/
def Bd (k : Int) (m : Nat) : Prop := k.natAbs < BB ^ m
theorem Bd.mono {k : Int} {m m' : Nat} (h : Bd k m) (hm : m ≤ m') : Bd k m' := Nat.lt_of_lt_of_le h (Nat.pow_le_pow_right BB_pos hm)
theorem Bd.add {a b : Int} {m : Nat} (h : Bd a m) (h' : Bd b m) : Bd (a + b) (m + 1) := by
  unfold Bd at *
  rw [Nat.pow_succ]
  unfold BB at *
  omega
theorem Bd.neg {a : Int} {m : Nat} (h : Bd a m) : Bd (-a) m := by
  unfold Bd at *
  rwa [Int.natAbs_neg]
theorem Bd.sub {a b : Int} {m : Nat} (h : Bd a m) (h' : Bd b m) : Bd (a - b) (m + 1) := by
  rw [Int.sub_eq_add_neg]
  exact h.add h'.neg
theorem Bd.mul {a b : Int} {m n : Nat} (h : Bd a m) (h' : Bd b n) : Bd (a * b) (m + n) := by
  unfold Bd at *
  rw [Int.natAbs_mul, Nat.pow_add]
  exact Nat.mul_lt_mul_of_lt_of_le h (Nat.le_of_lt h') (Nat.pow_pos BB_pos)
theorem UV.bd {W : World} {m : Nat} {v : Value} {k : Int} (h : UV W m v k) : Bd k m := h.bound
theorem NV.uv' {W : World} {v : Value} {k : Int} (h : NV W v k) {m : Nat} (hk : Bd k m) : UV W m v k := h.uv hk

/-- A slice of integers, by their values. -/
def ISV (W : World) (m : Nat) (v : Value) (ks : List Int) : Prop := ∃ is : List (Bool × List Nat), IS W m v is ∧ is.map (fun p => iv p.1 p.2) = ks
theorem ISV.below {W W' : World} {m : Nat} {v : Value} {ks : List Int} (h : ISV W m v ks) (hb : Below W.heap.size W W') : ISV W' m v ks := by
  obtain ⟨is, h1, h2⟩ := h
  exact ⟨is, h1.below hb, h2⟩
theorem ISV.nil {m : Nat} (W : World) : ISV W m (.slice none 0 0) [] := ⟨[], IS.nil W, rfl⟩

theorem IRd.one {m : Nat} {w : World} {s : Bool} {A : Option Addr} {n c : Nat} {l : List Nat} (h : Rd w A n c l) (ht : Lt l) (hn : n ≤ m) (t : TypeId) :
    IRdM m (w.alloc (.cells #[.bool s, .slice A n c] t)) (some ⟨w.heap.size, 0, none⟩) 1 [(s, l)] :=
  ⟨rfl, fun i hi => by
    obtain rfl : i = 0 := by omega
    exact ⟨_, _, s, A, n, c, l, rfl, cell_new w _ t 0, cell_new w _ t 1, rfl, h.alloc _, ht, hn⟩⟩

theorem uv_agg {W : World} {m : Nat} {s : Bool} {A : Option Addr} {n c : Nat} {k : Int} (h : UV W m (.agg #[.bool s, .slice A n c]) k) : ∃ l, Rd W A n c l ∧ Lt l ∧ n ≤ m ∧ iv s l = k := by
  obtain ⟨s', A', n', c', l, he, h1, h2, h3, h4⟩ := h
  injection he with he
  injection he with he
  injection he with e1 he
  injection he with e2 _
  injection e1 with e1
  injection e2 with f1 f2 f3
  subst e1; subst f1; subst f2; subst f3
  exact ⟨l, h1, h2, h3, h4⟩
theorem ISV.one {W : World} {m : Nat} {s : Bool} {A : Option Addr} {n c : Nat} {k : Int} (h : UV W m (.agg #[.bool s, .slice A n c]) k) (t : TypeId) :
    ISV (W.alloc (.cells #[.bool s, .slice A n c] t)) m (.slice (some ⟨W.heap.size, 0, none⟩) 1 1) [k] := by
  obtain ⟨l, h1, h2, h3, rfl⟩ := uv_agg h
  exact ⟨[(s, l)], ⟨_, rfl, IRd.one h1 h2 h3 t⟩, rfl⟩
theorem ISV.two {W : World} {m : Nat} {s : Bool} {A : Option Addr} {n c : Nat} {k : Int} (h : UV W m (.agg #[.bool s, .slice A n c]) k) {s' : Bool} {A' : Option Addr} {n' c' : Nat} {k' : Int} (h' : UV W m (.agg #[.bool s', .slice A' n' c']) k') (t : TypeId) :
    ISV (W.alloc (.cells #[.bool s, .slice A n c, .bool s', .slice A' n' c'] t)) m (.slice (some ⟨W.heap.size, 0, none⟩) 2 2) [k, k'] := by
  obtain ⟨l, h1, h2, h3, rfl⟩ := uv_agg h
  obtain ⟨l', h1', h2', h3', rfl⟩ := uv_agg h'
  exact ⟨[(s, l), (s', l')], IS.two h1 h2 h3 h1' h2' h3' t, rfl⟩
theorem ISV.three {W : World} {m : Nat} {s : Bool} {A : Option Addr} {n c : Nat} {k : Int} (h : UV W m (.agg #[.bool s, .slice A n c]) k) {s' : Bool} {A' : Option Addr} {n' c' : Nat} {k' : Int} (h' : UV W m (.agg #[.bool s', .slice A' n' c']) k')
    {s'' : Bool} {A'' : Option Addr} {n'' c'' : Nat} {k'' : Int} (h'' : UV W m (.agg #[.bool s'', .slice A'' n'' c'']) k'') (t : TypeId) :
    ISV (W.alloc (.cells #[.bool s, .slice A n c, .bool s', .slice A' n' c', .bool s'', .slice A'' n'' c''] t)) m (.slice (some ⟨W.heap.size, 0, none⟩) 3 3) [k, k', k''] := by
  obtain ⟨l, h1, h2, h3, rfl⟩ := uv_agg h
  obtain ⟨l', h1', h2', h3', rfl⟩ := uv_agg h'
  obtain ⟨l'', h1'', h2'', h3'', rfl⟩ := uv_agg h''
  exact ⟨[(s, l), (s', l'), (s'', l'')], IS.three h1 h2 h3 h1' h2' h3' h1'' h2'' h3'' t, rfl⟩

theorem isum_take (is : List (Bool × List Nat)) : ∀ k, k ≤ is.length → isum is k = ((is.take k).map fun p => iv p.1 p.2).sum
  | 0, _ => rfl
  | k + 1, h => by
    have h1 := isum_take is k (by omega)
    show isum is k + ivAt is k = _
    rw [h1, List.take_succ_eq_append_getElem (by omega), List.map_append, List.sum_append]
    unfold ivAt
    rw [List.getElem?_eq_getElem (by omega)]
    simp
theorem iprod_take (is : List (Bool × List Nat)) : ∀ k, k ≤ is.length → iprod is k = ((is.take k).map fun p => iv p.1 p.2).foldl (· * ·) 1
  | 0, _ => rfl
  | k + 1, h => by
    have h1 := iprod_take is k (by omega)
    show iprod is k * ivAt is k = _
    rw [h1, List.take_succ_eq_append_getElem (by omega), List.map_append, List.foldl_append]
    unfold ivAt
    rw [List.getElem?_eq_getElem (by omega)]
    simp
theorem iprod_bd {m : Nat} {w : World} {A : Option Addr} {n : Nat} {is : List (Bool × List Nat)} (h : IRdM m w A n is) : ∀ k, Bd (iprod is k) (m * k + 1)
  | 0 => by
    show (1 : Int).natAbs < BB ^ (0 + 1)
    decide
  | k + 1 => by
    have h1 := (iprod_bd h k).mul (show Bd (ivAt is k) m from ivAt_lt h k)
    show Bd (iprod is k * ivAt is k) _
    exact h1.mono (by rw [Nat.mul_add]; omega)

theorem add_w {W : World} {m : Nat} {v : Value} {ks : List Int} {k : Int} (h : ISV W m v ks) (hm : m ≤ 100000) (hn : ks.length ≤ 1000) (hk : ks.sum = k) : Calls Try.prog 20 #[v] W (RetV W k) := by
  obtain ⟨is, h1, h2⟩ := h
  have := add_v h1 hm (by rw [← h2, List.length_map] at hn; omega)
  rw [isum_take is is.length (Nat.le_refl _), List.take_length, h2, hk] at this
  exact this
theorem mul_w {W : World} {m : Nat} {v : Value} {ks : List Int} {k : Int} (h : ISV W m v ks) (hn : m * ks.length + m + 1 ≤ 40000) (hk : ks.foldl (· * ·) 1 = k) (hl : ks.length ≤ 1000) : Calls Try.prog 24 #[v] W (RetV W k) := by
  obtain ⟨is, ⟨A, rfl, h1⟩, h2⟩ := h
  have hl2 : is.length = ks.length := by rw [← h2, List.length_map]
  have := (smul_any A is.length is.length is (m * ks.length + m + 1) W (IRdM.mono h1 (by omega)) (Nat.le_refl _) (by omega) hn (fun k => Nat.lt_of_lt_of_le (ivAt_lt h1 k) (Nat.pow_le_pow_right BB_pos (by omega))) (fun k hk => (iprod_bd h1 k).mono (by
    have : m * k ≤ m * ks.length := Nat.mul_le_mul_left _ (by omega)
    omega))).mono fun _ _ => RetInt.v
  rw [iprod_take is is.length (Nat.le_refl _), List.take_length, h2, hk] at this
  exact this

theorem lawsame_t {W : World} {v v' : Value} {k k' : Int} (h : NV W v k) (h' : NV W v' k') (hk : k = k') : Calls Try.prog 13 #[v, v'] W fun e w' => e = .returned (.bool true) ∧ Below W.heap.size W w' := by
  obtain ⟨A, n, c, l, rfl, h1, h2⟩ := h
  obtain ⟨A', n', c', l', rfl, h1', h2'⟩ := h'
  have := lawsame_any k A n c l k' A' n' c' l' W h2 h1 h2' h1' _ _ rfl rfl
  rwa [decide_eq_true hk] at this
theorem lawsmall_t {W : World} {v : Value} {k k' : Int} (h : NV W v k) (hk : k = k') (h1 : -9223372036854775808 ≤ k') (h2 : k' ≤ 9223372036854775807) : Calls Try.prog 12 #[v, .int .i64 k'] W fun e w' => e = .returned (.bool true) ∧ Below W.heap.size W w' := by
  obtain ⟨A, n, c, l, rfl, g1, g2⟩ := h
  have := lawsmall_any k A n c l k' W g2 g1 _ rfl h1 h2
  rwa [decide_eq_true hk] at this
theorem NV.open {W : World} {v : Value} {k : Int} {m : Nat} (h : NV W v k) (hb : Bd k m) : ∃ sb A n c, v = .agg #[.bool sb, .slice A n c] ∧ UV W m (.agg #[.bool sb, .slice A n c]) k := by
  have hu := h.uv' hb
  obtain ⟨A, n, c, l, rfl, h1, h2⟩ := h
  exact ⟨_, A, n, c, rfl, hu⟩
end Go.Proofs.Wd
