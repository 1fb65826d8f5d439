/- Integers as values: what sint's functions answer of them. -/
import Derived.Test.YtghgemeclgpibaaDoorSintF
namespace Go.Proofs.Wd
open Go.RowKit Lb

/-- The value v is an integer k of at most m limbs. -/
def UV (W : World) (m : Nat) (v : Value) (k : Int) : Prop := ∃ s A n c l, v = .agg #[.bool s, .slice A n c] ∧ Rd W A n c l ∧ Lt l ∧ n ≤ m ∧ iv s l = k
/-- The value v is the integer k as it is told. -/
def NV (W : World) (v : Value) (k : Int) : Prop := ∃ A n c l, v = .agg #[.bool (decide (k < 0)), .slice A n c] ∧ Is l k.natAbs ∧ Rd W A n c l
theorem UV.mk {W : World} {m : Nat} {s : Bool} {A : Option Addr} {n c : Nat} {l : List Nat} (h : Rd W A n c l) (ht : Lt l) (hn : n ≤ m) : UV W m (.agg #[.bool s, .slice A n c]) (iv s l) := ⟨s, A, n, c, l, rfl, h, ht, hn, rfl⟩
theorem UV.below {W W' : World} {m : Nat} {v : Value} {k : Int} (h : UV W m v k) (hb : Below W.heap.size W W') : UV W' m v k := by
  obtain ⟨s, A, n, c, l, rfl, h1, h2⟩ := h
  exact ⟨s, A, n, c, l, rfl, h1.below hb, h2⟩
theorem NV.below {W W' : World} {v : Value} {k : Int} (h : NV W v k) (hb : Below W.heap.size W W') : NV W' v k := by
  obtain ⟨A, n, c, l, rfl, h1, h2⟩ := h
  exact ⟨A, n, c, l, rfl, h1, h2.below hb⟩
theorem NV.uv {W : World} {v : Value} {k : Int} (h : NV W v k) {m : Nat} (hk : k.natAbs < BB ^ m) : UV W m v k := by
  obtain ⟨A, n, c, l, rfl, h1, h2⟩ := h
  exact ⟨_, A, n, c, l, rfl, h2, h1.lt, by rw [← h2.len]; exact h1.len hk, iv_norm h1⟩
theorem UV.bound {W : World} {m : Nat} {v : Value} {k : Int} (h : UV W m v k) : k.natAbs < BB ^ m := by
  obtain ⟨s, A, n, c, l, rfl, h1, h2, h3, rfl⟩ := h
  exact iv_bound h2 h1.len h3
theorem UV.mono {W : World} {m m' : Nat} {v : Value} {k : Int} (h : UV W m v k) (hm : m ≤ m') : UV W m' v k := by
  obtain ⟨s, A, n, c, l, rfl, h1, h2, h3, rfl⟩ := h
  exact ⟨s, A, n, c, l, rfl, h1, h2, by omega, rfl⟩
/-- A call's answer: an integer as it is told. -/
def RetV (w : World) (k : Int) : Ending → World → Prop := fun e w' => ∃ v, e = .returned v ∧ NV w' v k ∧ Below w.heap.size w w'
theorem RetInt.v {w : World} {k : Int} {e : Ending} {w' : World} (h : RetInt w k e w') : RetV w k e w' := by
  obtain ⟨A, n, c, l, rfl, h1, h2, h3⟩ := h
  exact ⟨_, rfl, ⟨A, n, c, l, rfl, h1, h2⟩, h3⟩

theorem neg_v {W : World} {m : Nat} {v : Value} {k : Int} (h : UV W m v k) (hm : m ≤ 100000) : Calls Tryd.prog 77 #[v] W (RetV W (-k)) := by
  obtain ⟨s, A, n, c, l, rfl, h1, h2, h3, rfl⟩ := h
  exact (sneg_any s A n c l W h1 h2 (by omega)).mono fun _ _ => RetInt.v
theorem norm_v {W : World} {m : Nat} {v : Value} {k : Int} (h : UV W m v k) (hm : m ≤ 100000) : Calls Tryd.prog 76 #[v] W (RetV W k) := by
  obtain ⟨s, A, n, c, l, rfl, h1, h2, h3, rfl⟩ := h
  exact (snorm_any s A n c l W h1 h2 (by omega)).mono fun _ _ => RetInt.v
theorem sign_v {W : World} {m : Nat} {v : Value} {k : Int} (h : UV W m v k) (hm : m ≤ 100000) : Calls Tryd.prog 74 #[v] W fun e w' => e = .returned (.int .i64 k.sign) ∧ Below W.heap.size W w' := by
  obtain ⟨s, A, n, c, l, rfl, h1, h2, h3, rfl⟩ := h
  exact ssign_any s A n c l W h1 h2 (by omega)
theorem sub_v {W : World} {m : Nat} {v v' : Value} {k k' : Int} (h : UV W m v k) (h' : UV W m v' k') (hm : m ≤ 100000) : Calls Tryd.prog 94 #[v, v'] W (RetV W (k - k')) := by
  obtain ⟨s, A, n, c, l, rfl, h1, h2, h3, rfl⟩ := h
  obtain ⟨s', A', n', c', l', rfl, h1', h2', h3', rfl⟩ := h'
  exact (ssub_any s A n c l s' A' n' c' l' W h1 h2 h1' h2' m h3 h3' hm).mono fun _ _ => RetInt.v
theorem cmp_v {W : World} {m : Nat} {v v' : Value} {k k' : Int} (h : UV W m v k) (h' : UV W m v' k') (hm : m ≤ 100000) : Calls Tryd.prog 67 #[v, v'] W fun e w' => e = .returned (.int .i64 (k - k').sign) ∧ Below W.heap.size W w' := by
  obtain ⟨s, A, n, c, l, rfl, h1, h2, h3, rfl⟩ := h
  obtain ⟨s', A', n', c', l', rfl, h1', h2', h3', rfl⟩ := h'
  exact scmp_any s A n c l s' A' n' c' l' W h1 h2 h1' h2' m h3 h3' hm
/-- A slice of integers as a value. -/
def IS (W : World) (m : Nat) (v : Value) (is : List (Bool × List Nat)) : Prop := ∃ A, v = .slice A is.length is.length ∧ IRdM m W A is.length is
theorem IS.below {W W' : World} {m : Nat} {v : Value} {is : List (Bool × List Nat)} (h : IS W m v is) (hb : Below W.heap.size W W') : IS W' m v is := by
  obtain ⟨A, h1, h2⟩ := h
  exact ⟨A, h1, h2.below hb⟩
theorem IRdM.mono {m m' : Nat} {w : World} {A : Option Addr} {n : Nat} {is : List (Bool × List Nat)} (h : IRdM m w A n is) (hm : m ≤ m') : IRdM m' w A n is :=
  ⟨h.len, fun i hi => by
    obtain ⟨b, o, s, Ai, ni, ci, li, e, hc, hc', h1, h2, h3, h4⟩ := h.cells i hi
    exact ⟨b, o, s, Ai, ni, ci, li, e, hc, hc', h1, h2, h3, by omega⟩⟩
theorem ivAt_lt {m : Nat} {w : World} {A : Option Addr} {n : Nat} {is : List (Bool × List Nat)} (h : IRdM m w A n is) (k : Nat) : (ivAt is k).natAbs < BB ^ m := by
  by_cases hk : k < n
  · obtain ⟨b, o, s, Ai, ni, ci, li, e, hc, hc', h1, h2, h3, h4⟩ := h.cells k hk
    unfold ivAt
    rw [h1]
    exact iv_bound h3 h2.len h4
  · have : is[k]? = none := List.getElem?_eq_none (by rw [h.len]; omega)
    unfold ivAt
    rw [this]
    exact Nat.pow_pos (by unfold BB; omega)
theorem add_v {W : World} {m : Nat} {v : Value} {is : List (Bool × List Nat)} (h : IS W m v is) (hm : m ≤ 100000) (hn : is.length ≤ 100000) : Calls Tryd.prog 99 #[v] W (RetV W (isum is is.length)) := by
  obtain ⟨A, rfl, h2⟩ := h
  exact (sadd_any A is.length is.length is m W (IRdM.mono h2 (by omega)) (Nat.le_refl _) (by omega) (by omega) (fun k => ivAt_lt h2 k)).mono fun _ _ => RetInt.v
theorem isum_two (p q : Bool × List Nat) : isum [p, q] 2 = iv p.1 p.2 + iv q.1 q.2 := by
  show (0 + _) + _ = _
  rw [Int.zero_add]
  rfl
theorem IS.two {m : Nat} {w : World} {s s' : Bool} {A : Option Addr} {n c : Nat} {l : List Nat} (h : Rd w A n c l) (ht : Lt l) (hn : n ≤ m) {A' : Option Addr} {n' c' : Nat} {l' : List Nat} (h' : Rd w A' n' c' l') (ht' : Lt l') (hn' : n' ≤ m) (t : TypeId) :
    IS (w.alloc (.cells #[.bool s, .slice A n c, .bool s', .slice A' n' c'] t)) m (.slice (some ⟨w.heap.size, 0, none⟩) 2 2) [(s, l), (s', l')] := ⟨_, rfl, IRd.two h ht hn h' ht' hn' t⟩
theorem IS.three {m : Nat} {w : World} {s s' s'' : Bool} {A : Option Addr} {n c : Nat} {l : List Nat} (h : Rd w A n c l) (ht : Lt l) (hn : n ≤ m) {A' : Option Addr} {n' c' : Nat} {l' : List Nat} (h' : Rd w A' n' c' l') (ht' : Lt l') (hn' : n' ≤ m)
    {A'' : Option Addr} {n'' c'' : Nat} {l'' : List Nat} (h'' : Rd w A'' n'' c'' l'') (ht'' : Lt l'') (hn'' : n'' ≤ m) (t : TypeId) :
    IS (w.alloc (.cells #[.bool s, .slice A n c, .bool s', .slice A' n' c', .bool s'', .slice A'' n'' c''] t)) m (.slice (some ⟨w.heap.size, 0, none⟩) 3 3) [(s, l), (s', l'), (s'', l'')] := ⟨_, rfl, IRd.three h ht hn h' ht' hn' h'' ht'' hn'' t⟩
theorem IS.nil {m : Nat} (w : World) : IS w m (.slice none 0 0) [] := ⟨none, rfl, rfl, fun i hi => absurd hi (by simp)⟩
end Go.Proofs.Wd
