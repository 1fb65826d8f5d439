/- The walk of prod.Mul. -/
import Derived.Test.YtghgemeclgpibaaDoorProdB
import Derived.Test.YtghgemeclgpibaaDoorFlow
import Derived.Test.YtghgemeclgpibaaDoorNatD
import Derived.Test.YtghgemeclgpibaaDoorNatC
namespace Go.Proofs.Wd
open Go.RowKit Lb
attribute [local go_sem] Oper.semAt_some wide_fn wide_depth

/-- The value v reads as the trimmed limbs of x. -/
def NatV (W : World) (v : Value) (x : Nat) : Prop := ∃ A n c l, v = .slice A n c ∧ Is l x ∧ Rd W A n c l
theorem NatV.below {W W' : World} {v : Value} {x : Nat} (h : NatV W v x) (hb : Below W.heap.size W W') : NatV W' v x := by
  obtain ⟨A, n, c, l, h1, h2, h3⟩ := h
  exact ⟨A, n, c, l, h1, h2, h3.below hb⟩
/-- The value v is a slice of these rows of limbs. -/
def RowsV (W : World) (v : Value) (ls : List (List Nat)) : Prop := ∃ A, v = .slice A ls.length ls.length ∧ Rds W A ls.length ls
theorem RowsV.below {W W' : World} {v : Value} {ls : List (List Nat)} (h : RowsV W v ls) (hb : Below W.heap.size W W') : RowsV W' v ls := by
  obtain ⟨A, h1, h2⟩ := h
  exact ⟨A, h1, h2.below hb⟩

/-- The closure that multiplies, in its own box. -/
def mulFn (mb : Nat) : Value := .func (.func 87) #[] #[.pointer (some ⟨mb, 0, none⟩)]
/-- It multiplies numbers of at most N limbs. -/
def KMul (N : Nat) : Prop := ∀ (mb : Nat) (A : Option Addr) (n c : Nat) (l : List Nat) (A' : Option Addr) (n' c' : Nat) (l' : List Nat) (w : World), Rd w A n c l → Rd w A' n' c' l' → Lt l → Lt l' → n ≤ N → n' ≤ N → w.cell? ⟨mb, 0, none⟩ = some (mulFn mb) →
  Calls Tryd.prog 87 #[.slice A n c, .slice A' n' c', .pointer (some ⟨mb, 0, none⟩)] w (RetNat w (val l * val l'))

/-- Karatsuba's sum. -/
theorem kara (a0 a1 b0 b1 P : Nat) : (a0 + P * a1) * (b0 + P * b1) = a0 * b0 + P * ((a0 + a1) * (b0 + b1) - (a0 * b0 + a1 * b1)) + P * P * (a1 * b1) := by
  have e : (a0 + a1) * (b0 + b1) - (a0 * b0 + a1 * b1) = a0 * b1 + a1 * b0 := by
    rw [Nat.add_mul, Nat.mul_add, Nat.mul_add]
    omega
  rw [e, Nat.add_mul, Nat.mul_add, Nat.mul_add, Nat.mul_add]
  have e1 : a0 * (P * b1) = P * (a0 * b1) := Nat.mul_left_comm ..
  have e2 : P * a1 * b0 = P * (a1 * b0) := Nat.mul_assoc ..
  have e3 : P * a1 * (P * b1) = P * P * (a1 * b1) := by rw [Nat.mul_mul_mul_comm]
  omega
theorem kara_le (a0 a1 b0 b1 : Nat) : a0 * b0 + a1 * b1 ≤ (a0 + a1) * (b0 + b1) := by
  rw [Nat.add_mul, Nat.mul_add, Nat.mul_add]
  omega

set_option maxRecDepth 100000 in
set_option maxHeartbeats 2000000 in
theorem kmul_plain (mb : Nat) (A : Option Addr) (n c : Nat) (l : List Nat) (A' : Option Addr) (n' c' : Nat) (l' : List Nat) (w : World) (h : Rd w A n c l) (h' : Rd w A' n' c' l') (ht : Lt l) (ht' : Lt l') (hn : n ≤ 40000) (hn' : n' ≤ 40000) (M m k K : Nat)
    (hmax : max (n : Int) (n' : Int) = (M : Int)) (hmin : min (n : Int) (n' : Int) = (m : Int)) (hdiv : (M : Int) / 2 = (k : Int)) (hmx : max (k : Int) 12 = (K : Int)) (hle : m ≤ K) :
    Calls Tryd.prog 87 #[.slice A n c, .slice A' n' c', .pointer (some ⟨mb, 0, none⟩)] w (RetNat w (val l * val l')) := by
  have hpl := plain_any A n c l A' n' c' l' w h h' ht ht' (by omega) (by omega)
  have hdv : (M : Int).tdiv 2 = (k : Int) := by rw [Int.tdiv_eq_ediv_of_nonneg (by omega)]; exact hdiv
  have hdec : decide ((m : Int) ≤ (K : Int)) = true := decide_eq_true (by omega)
  have hk : (k : Int) ≤ 40000 := by omega
  go_enter Tryd.func87, Tryd.ntmps87
  go_wp2_with (go_at_call 88; refine hpl.mono ?_; rintro e w2 ⟨A2, n2, c2, l2, rfl, hi2, hr2, hb2⟩)
  all_goals
    go_ret
    exact ⟨A2, n2, c2, l2, rfl, hi2, hr2, hb2⟩

/-- What Karatsuba's middle region makes. -/
def KE (l l' l1 l2 : List Nat) (k x1 x2 : Nat) (i : Nat) (v : Value) (W : World) : Prop :=
  match i with
  | 7 => RowsV W v [l.take k, l.drop k]
  | 8 => NatV W v (val (l.take k) + val (l.drop k))
  | 15 => RowsV W v [l'.take k, l'.drop k]
  | 16 => NatV W v (val (l'.take k) + val (l'.drop k))
  | 17 => NatV W v ((val (l.take k) + val (l.drop k)) * (val (l'.take k) + val (l'.drop k)))
  | 20 => RowsV W v [l1, l2]
  | 21 => NatV W v (x1 + x2)
  | 22 => NatV W v ((val (l.take k) + val (l.drop k)) * (val (l'.take k) + val (l'.drop k)) - (x1 + x2))
  | 23 => NatV W v ((val (l.take k) + val (l.drop k)) * (val (l'.take k) + val (l'.drop k)) - (x1 + x2))
  | _ => True
theorem KE_below (l l' l1 l2 : List Nat) (k x1 x2 : Nat) (i : Nat) (v : Value) (W W' : World) (h : KE l l' l1 l2 k x1 x2 i v W) (hb : Below W.heap.size W W') : KE l l' l1 l2 k x1 x2 i v W' := by
  unfold KE at h ⊢
  split at h <;> first | exact NatV.below h hb | exact RowsV.below h hb | trivial

end Go.Proofs.Wd
