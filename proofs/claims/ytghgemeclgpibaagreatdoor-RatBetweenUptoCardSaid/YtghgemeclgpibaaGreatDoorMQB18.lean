/- Natural numbers as values, and what prod and the references answer of  and what it needs. -/
import Derived.Test.YtghgemeclgpibaaGreatDoorMQB10
import Derived.Test.YtghgemeclgpibaaGreatDoorMQB7
import Derived.Test.YtghgemeclgpibaaGreatDoorMQB16
import Derived.Test.YtghgemeclgpibaaGreatDoorMQB9
namespace Go.Proofs.Wd
open Go.RowKit Lb

def LV (W : World) (m : Nat) (v : Value) (x : Nat) : Prop := ∃ A n c l, v = .slice A n c ∧ Rd W A n c l ∧ Lt l ∧ n ≤ m ∧ val l = x
theorem LV.mk {W : World} {m : Nat} {A : Option Addr} {n c : Nat} {l : List Nat} (h : Rd W A n c l) (ht : Lt l) (hn : n ≤ m) : LV W m (.slice A n c) (val l) := ⟨A, n, c, l, rfl, h, ht, hn, rfl⟩
theorem LV.below {W W' : World} {m : Nat} {v : Value} {x : Nat} (h : LV W m v x) (hb : Below W.heap.size W W') : LV W' m v x := by
  obtain ⟨A, n, c, l, rfl, h1, h2⟩ := h
  exact ⟨A, n, c, l, rfl, h1.below hb, h2⟩
theorem LV.mono {W : World} {m m' : Nat} {v : Value} {x : Nat} (h : LV W m v x) (hm : m ≤ m') : LV W m' v x := by
  obtain ⟨A, n, c, l, rfl, h1, h2, h3, h4⟩ := h
  exact ⟨A, n, c, l, rfl, h1, h2, by omega, h4⟩
theorem LV.bound {W : World} {m : Nat} {v : Value} {x : Nat} (h : LV W m v x) : x < BB ^ m := by
  obtain ⟨A, n, c, l, rfl, h1, h2, h3, rfl⟩ := h
  exact Nat.lt_of_lt_of_le (val_lt h2) (Nat.pow_le_pow_right BB_pos (by rw [h1.len]; exact h3))
theorem NatV.lv {W : World} {v : Value} {x m : Nat} (h : NatV W v x) (hx : x < BB ^ m) : LV W m v x := by
  obtain ⟨A, n, c, l, rfl, h1, h2⟩ := h
  exact ⟨A, n, c, l, rfl, h2, h1.lt, by rw [← h2.len]; exact h1.len hx, h1.val⟩
def RetN (w : World) (x : Nat) : Ending → World → Prop := fun e w' => ∃ v, e = .returned v ∧ NatV w' v x ∧ Below w.heap.size w w'
theorem RetNat.v {w : World} {x : Nat} {e : Ending} {w' : World} (h : RetNat w x e w') : RetN w x e w' := by
  obtain ⟨A, n, c, l, rfl, h1, h2, h3⟩ := h
  exact ⟨_, rfl, ⟨A, n, c, l, rfl, h1, h2⟩, h3⟩

theorem mul_v {W : World} {m : Nat} {v v' : Value} {a b : Nat} (h : LV W m v a) (h' : LV W m v' b) (hm : m ≤ 40000) : Calls Tryz.prog 64 #[v, v'] W (RetN W (a * b)) := by
  obtain ⟨A, n, c, l, rfl, h1, h2, h3, rfl⟩ := h
  obtain ⟨A', n', c', l', rfl, h1', h2', h3', rfl⟩ := h'
  exact (mul_any A n c l A' n' c' l' W h1 h1' h2 h2' (by omega) (by omega)).mono fun _ _ => RetNat.v
def RetN2 (w : World) (x y : Nat) : Ending → World → Prop := fun e w' => ∃ v v', e = .returned (.tuple #[v, v']) ∧ NatV w' v x ∧ NatV w' v' y ∧ Below w.heap.size w w'

theorem LV.open {W : World} {m : Nat} {v : Value} {x : Nat} (h : LV W m v x) : ∃ A n c, v = .slice A n c ∧ n ≤ m ∧ n ≤ c ∧ c ≤ 9223372036854775807 ∧ LV W m (.slice A n c) x := by
  obtain ⟨A, n, c, l, rfl, h1, h2, h3, h4⟩ := h
  exact ⟨A, n, c, rfl, h3, h1.le, h1.cap, ⟨A, n, c, l, rfl, h1, h2, h3, h4⟩⟩
def RetDN (w : World) (a b : Nat) : Ending → World → Prop := fun e w' => ∃ v v', e = .returned (.tuple #[v, v', .int .i64 0]) ∧ NatV w' v (a / b) ∧ NatV w' v' (a % b) ∧ Below w.heap.size w w'
theorem rdiv_v {W : World} {m : Nat} {v v' : Value} {a b : Nat} (h : LV W m v a) (h' : LV W m v' b) (hm : m ≤ 10000) (h0 : 0 < b) : Calls Tryz.prog 62 #[v, v'] W (RetDN W a b) := by
  obtain ⟨A, n, c, l, rfl, h1, h2, h3, rfl⟩ := h
  obtain ⟨A', n', c', l', rfl, h1', h2', h3', rfl⟩ := h'
  refine (rdiv_any A n c l A' n' c' l' W h1 h1' h2 h2' (by omega) (by omega) h0).mono ?_
  rintro e w' ⟨A1, n1, c1, l1, A2, n2, c2, l2, rfl, i1, r1, i2, r2, hb⟩
  exact ⟨_, _, rfl, ⟨A1, n1, c1, l1, rfl, i1, r1⟩, ⟨A2, n2, c2, l2, rfl, i2, r2⟩, hb⟩
theorem rcmp_v {W : World} {m : Nat} {v v' : Value} {a b : Nat} (h : LV W m v a) (h' : LV W m v' b) : Calls Tryz.prog 89 #[v, v'] W fun e w' => e = .returned (.int .i64 (cmpOf a b)) ∧ W = w' := by
  obtain ⟨A, n, c, l, rfl, h1, h2, h3, rfl⟩ := h
  obtain ⟨A', n', c', l', rfl, h1', h2', h3', rfl⟩ := h'
  exact rcmp_any A n c l A' n' c' l' W h1 h1' h2 h2'
theorem radd2_v {W : World} {m : Nat} {A : Option Addr} {n c : Nat} {A' : Option Addr} {n' c' : Nat} {x y : Nat} (h : LV W m (.slice A n c) x) (h' : LV W m (.slice A' n' c') y) (hm : m ≤ 10000) (t : TypeId) :
    Calls Tryz.prog 86 #[.slice (some ⟨W.heap.size, 0, none⟩) 2 2] (W.alloc (.cells #[.slice A n c, .slice A' n' c'] t)) (RetN (W.alloc (.cells #[.slice A n c, .slice A' n' c'] t)) (x + y)) := by
  obtain ⟨A1, n1, c1, l, e1, h1, h2, h3, rfl⟩ := h
  obtain ⟨A2, n2, c2, l', e2, h1', h2', h3', rfl⟩ := h'
  cases e1
  cases e2
  have := radd_any _ 2 2 _ _ (Rds.two h1 h2 (by omega) h1' h2' (by omega) t) (by decide)
  simp only [List.map_cons, List.map_nil, List.sum_cons, List.sum_nil, Nat.add_zero] at this
  exact this.mono fun _ _ => RetNat.v

def LSV (W : World) (m : Nat) (v : Value) (xs : List Nat) : Prop := ∃ A c ls, v = .slice A xs.length c ∧ Rds W A xs.length ls ∧ (∀ l ∈ ls, l.length ≤ m) ∧ ls.map val = xs
theorem LSV.below {W W' : World} {m : Nat} {v : Value} {xs : List Nat} (h : LSV W m v xs) (hb : Below W.heap.size W W') : LSV W' m v xs := by
  obtain ⟨A, c, ls, h1, h2, h3⟩ := h
  exact ⟨A, c, ls, h1, h2.below hb, h3⟩

theorem NatV.nil (W : World) : NatV W (.slice none 0 0) 0 := ⟨none, 0, 0, [], rfl, Is.nil, Rd.nil_ W⟩

theorem LSV.two {W : World} {m : Nat} {A : Option Addr} {n c : Nat} {A' : Option Addr} {n' c' : Nat} {x y : Nat} (h : LV W m (.slice A n c) x) (h' : LV W m (.slice A' n' c') y) (hm : m ≤ 10000) (t : TypeId) :
    LSV (W.alloc (.cells #[.slice A n c, .slice A' n' c'] t)) m (.slice (some ⟨W.heap.size, 0, none⟩) 2 2) [x, y] := by
  obtain ⟨A1, n1, c1, l, e1, h1, h2, h3, rfl⟩ := h
  obtain ⟨A2, n2, c2, l', e2, h1', h2', h3', rfl⟩ := h'
  cases e1
  cases e2
  exact ⟨_, 2, [l, l'], rfl, Rds.two h1 h2 (by omega) h1' h2' (by omega) t, fun z hz => by simp at hz; rcases hz with rfl | rfl; exact (by rw [h1.len]; exact h3); exact (by rw [h1'.len]; exact h3'), rfl⟩
theorem LSV.three {W : World} {m : Nat} {A : Option Addr} {n c : Nat} {A' : Option Addr} {n' c' : Nat} {A'' : Option Addr} {n'' c'' : Nat} {x y z : Nat} (h : LV W m (.slice A n c) x) (h' : LV W m (.slice A' n' c') y) (h'' : LV W m (.slice A'' n'' c'') z) (hm : m ≤ 10000) (t : TypeId) :
    LSV (W.alloc (.cells #[.slice A n c, .slice A' n' c', .slice A'' n'' c''] t)) m (.slice (some ⟨W.heap.size, 0, none⟩) 3 3) [x, y, z] := by
  obtain ⟨A1, n1, c1, l, e1, h1, h2, h3, rfl⟩ := h
  obtain ⟨A2, n2, c2, l', e2, h1', h2', h3', rfl⟩ := h'
  obtain ⟨A3, n3, c3, l'', e3, h1'', h2'', h3'', rfl⟩ := h''
  cases e1
  cases e2
  cases e3
  exact ⟨_, 3, [l, l', l''], rfl, Rds.three h1 h2 (by omega) h1' h2' (by omega) h1'' h2'' (by omega) t, fun z hz => by simp at hz; rcases hz with rfl | rfl | rfl; exact (by rw [h1.len]; exact h3); exact (by rw [h1'.len]; exact h3'); exact (by rw [h1''.len]; exact h3''), rfl⟩
end Go.Proofs.Wd


namespace Go.Proofs.Wd
open Go.RowKit Lb
attribute [local go_sem] Oper.semAt_some wide_fn wide_depth

theorem of_v {W : World} (k : Int) (h : -9223372036854775808 ≤ k ∧ k ≤ 9223372036854775807) : Calls Tryz.prog 68 #[.int .i64 k] W (RetV W k) :=
  (sof2_any k h.1 h.2 W).mono fun _ _ => RetInt.v
def RetDV (w : World) (a b : Int) : Ending → World → Prop := fun e w' => ∃ q r v1 v2, e = .returned (.tuple #[v1, v2, .int .i64 0]) ∧ a = q * b + r ∧ FloorRest r b ∧ NV w' v1 q ∧ NV w' v2 r ∧ Below w.heap.size w w'
theorem floor_unique {a b q r k : Int} (h : a = q * b + r) (hf : FloorRest r b) (hk : FloorRest (a - k * b) b) : q = k := by
  have e : (a - k * b) - r = (q - k) * b := by rw [h, Int.sub_mul]; omega
  generalize a - k * b = r' at *
  rcases Int.lt_trichotomy (q - k) 0 with hlt | heq | hgt
  · exfalso
    unfold FloorRest at *
    rcases hf with hf | hf
    · have : (q - k) * b ≤ -1 * b := Int.mul_le_mul_of_nonneg_right (by omega) (by omega)
      omega
    · have : -1 * b ≤ (q - k) * b := Int.mul_le_mul_of_nonpos_right (by omega) (by omega)
      omega
  · omega
  · exfalso
    unfold FloorRest at *
    rcases hf with hf | hf
    · have : 1 * b ≤ (q - k) * b := Int.mul_le_mul_of_nonneg_right (by omega) (by omega)
      omega
    · have : (q - k) * b ≤ 1 * b := Int.mul_le_mul_of_nonpos_right (by omega) (by omega)
      omega

/-! ### in range -/
end Go.Proofs.Wd


namespace Go.Proofs.Wd
open Go.RowKit Lb

theorem r5neg_v {W : World} {m : Nat} {v : Value} {k : Int} (h : UV W m v k) (hm : m ≤ 90000) : Calls Tryz.prog 70 #[v] W (RetV W (-k)) := by
  obtain ⟨s, A, n, c, l, rfl, h1, h2, h3, rfl⟩ := h
  exact (r5neg_any s A n c l W h1 h2 (by omega)).mono fun _ _ => RetInt.v
theorem r5norm_w {W : World} {m : Nat} {v : Value} {k : Int} (h : UV W m v k) (hm : m ≤ 90000) : Calls Tryz.prog 58 #[v] W (RetV W k) := by
  obtain ⟨s, A, n, c, l, rfl, h1, h2, h3, rfl⟩ := h
  exact (r5norm_any s A n c l W h1 h2 (by omega)).mono fun _ _ => RetInt.v
theorem r5sign_v {W : World} {m : Nat} {v : Value} {k : Int} (h : UV W m v k) (hm : m ≤ 90000) : Calls Tryz.prog 47 #[v] W fun e w' => e = .returned (.int .i64 k.sign) ∧ Below W.heap.size W w' := by
  obtain ⟨s, A, n, c, l, rfl, h1, h2, h3, rfl⟩ := h
  exact r5sign_any s A n c l W h1 h2 (by omega)
theorem r5sub_v {W : World} {m : Nat} {v v' : Value} {k k' : Int} (h : UV W m v k) (h' : UV W m v' k') (hm : m ≤ 90000) : Calls Tryz.prog 48 #[v, v'] W (RetV W (k - k')) := by
  obtain ⟨s, A, n, c, l, rfl, h1, h2, h3, rfl⟩ := h
  obtain ⟨s', A', n', c', l', rfl, h1', h2', h3', rfl⟩ := h'
  exact (r5sub_any s A n c l s' A' n' c' l' W h1 h2 h1' h2' m h3 h3' hm).mono fun _ _ => RetInt.v
theorem r5of_v {W : World} (k : Int) (h : -9223372036854775808 ≤ k ∧ k ≤ 9223372036854775807) : Calls Tryz.prog 14 #[.int .i64 k] W (RetV W k) :=
  (r5of_any k h.1 h.2 W).mono fun _ _ => RetInt.v
theorem r5add_w {W : World} {m : Nat} {v : Value} {ks : List Int} {k : Int} (h : ISV W m v ks) (hm : m ≤ 1000) (hn : ks.length ≤ 1000) (hk : ks.sum = k) : Calls Tryz.prog 84 #[v] W (RetV W k) := by
  obtain ⟨is, h1, h2⟩ := h
  have hl : is.length = ks.length := by rw [← h2, List.length_map]
  obtain ⟨A, c, e, h3, h4, h5⟩ := h1
  have hb : ∀ j, j ≤ is.length → (isum is j).natAbs < BB ^ (m + 1000) := by
    intro j hj
    have key : ∀ j, Bd (isum is j) (m + j) := by
      intro j
      induction j with
      | zero => exact Nat.pow_pos BB_pos
      | succ j ih =>
        have e1 : isum is (j + 1) = isum is j + ivAt is j := rfl
        rw [e1]
        exact (ih.add ((show Bd (ivAt is j) m from ivAt_lt h5 j).mono (by omega))).mono (by omega)
    exact (key j).mono (by omega)
  have := r5add_v (m + 1000) (⟨A, c, e, h3, h4, h5⟩ : IS W m v is) (by omega) (by omega) (by omega) hb
  rw [isum_take is is.length (Nat.le_refl _), List.take_length, h2, hk] at this
  exact this
theorem r5mul_w {W : World} {m : Nat} {v : Value} {ks : List Int} {k : Int} (h : ISV W m v ks) (hn : m * ks.length + m + 1 ≤ 40000) (hk : ks.foldl (· * ·) 1 = k) (hl : ks.length ≤ 1000) : Calls Tryz.prog 49 #[v] W (RetV W k) := by
  obtain ⟨is, h1, h2⟩ := h
  have hl2 : is.length = ks.length := by rw [← h2, List.length_map]
  obtain ⟨A, c, e, h3, h4, h5⟩ := h1
  have := r5mul_v (m * ks.length + m + 1) (⟨A, c, e, h3, h4, h5⟩ : IS W m v is) (by omega) (by omega) (by omega) (fun k hk => (iprod_bd h5 k).mono (by
    have : m * k ≤ m * ks.length := Nat.mul_le_mul_left _ (by omega)
    omega))
  rw [iprod_take is is.length (Nat.le_refl _), List.take_length, h2, hk] at this
  exact this

def RetQ (w : World) (q r e : Int) : Ending → World → Prop := fun en w' => ∃ v1 v2, en = .returned (.tuple #[v1, v2, .int .i64 e]) ∧ NV w' v1 q ∧ NV w' v2 r ∧ Below w.heap.size w w'
theorem NV.empty (W : World) : NV W (.agg #[.bool false, .slice none 0 0]) 0 := ⟨none, 0, 0, [], rfl, Is.nil, Rd.nil_ W⟩
theorem floor_one {a b q r q' r' : Int} (h : a = q * b + r) (hf : FloorRest r b) (h' : a = q' * b + r') (hf' : FloorRest r' b) : q = q' ∧ r = r' := by
  have e1 : q = q' := floor_unique h hf (by rw [show a - q' * b = r' from by omega]; exact hf')
  subst e1
  exact ⟨rfl, by omega⟩
theorem RetDV.q {W : World} {a b q r : Int} (h : a = q * b + r) (hf : FloorRest r b) {e : Ending} {w' : World} (hd : RetDV W a b e w') : RetQ W q r 0 e w' := by
  obtain ⟨q', r', v1, v2, rfl, h1, h2, h3, h4, hb⟩ := hd
  obtain ⟨rfl, rfl⟩ := floor_one h hf h1 h2
  exact ⟨v1, v2, rfl, h3, h4, hb⟩
end Go.Proofs.Wd

