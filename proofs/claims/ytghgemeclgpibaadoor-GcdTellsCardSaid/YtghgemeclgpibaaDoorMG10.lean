/- prod.Mul. -/
import Derived.Test.YtghgemeclgpibaaDoorMG8
import Derived.Test.YtghgemeclgpibaaDoorMG9
import Derived.Laws.EntriesVeiled
namespace Go.Proofs.Wd
open Go.RowKit Lb
attribute [local go_sem] Oper.semAt_some wide_fn wide_depth

theorem kmul_all : ∀ M, M ≤ 40000 → KMul M := by
  intro M
  induction M using Nat.strongRecOn with
  | _ M ih =>
    intro hM mb A n c l A' n' c' l' w h h' ht ht' hn hn' hmb
    by_cases hp : min n n' ≤ max (max n n' / 2) 12
    · exact kmul_plain mb A n c l A' n' c' l' w h h' ht ht' (by omega) (by omega) (max n n') (min n n') (max n n' / 2) (max (max n n' / 2) 12) (by omega) (by omega) (by omega) (by omega) hp
    · obtain ⟨b, o, rfl, -, -⟩ := h.shape (by omega)
      obtain ⟨b', o', rfl, -, -⟩ := h'.shape (by omega)
      rcases Nat.lt_trichotomy n n' with e | e | e
      · rcases Nat.lt_or_ge (n' / 2) 12 with e2 | e2
        · exact kmul_p2 mb b o n c l b' o' n' c' l' w h h' ht ht' (by omega) (by omega) (n' / 2) e e2 rfl (by omega) (by omega) (by omega) (by omega) (ih (n' - 1) (by omega) (by omega)) hmb
        · exact kmul_p1 mb b o n c l b' o' n' c' l' w h h' ht ht' (by omega) (by omega) (n' / 2) e e2 rfl (by omega) (by omega) (by omega) (by omega) (ih (n' - 1) (by omega) (by omega)) hmb
      · subst e
        rcases Nat.lt_or_ge (n / 2) 12 with e2 | e2
        · exact kmul_p6 mb b o n c l b' o' c' l' w h h' ht ht' (by omega) (n / 2) e2 rfl (by omega) (by omega) (by omega) (by omega) (ih (n - 1) (by omega) (by omega)) hmb
        · exact kmul_p5 mb b o n c l b' o' c' l' w h h' ht ht' (by omega) (n / 2) e2 rfl (by omega) (by omega) (by omega) (by omega) (ih (n - 1) (by omega) (by omega)) hmb
      · rcases Nat.lt_or_ge (n / 2) 12 with e2 | e2
        · exact kmul_p4 mb b o n c l b' o' n' c' l' w h h' ht ht' (by omega) (by omega) (n / 2) e e2 rfl (by omega) (by omega) (by omega) (by omega) (ih (n - 1) (by omega) (by omega)) hmb
        · exact kmul_p3 mb b o n c l b' o' n' c' l' w h h' ht ht' (by omega) (by omega) (n / 2) e e2 rfl (by omega) (by omega) (by omega) (by omega) (ih (n - 1) (by omega) (by omega)) hmb

set_option maxRecDepth 100000 in
set_option maxHeartbeats 2000000 in
theorem mul_any (A : Option Addr) (n c : Nat) (l : List Nat) (A' : Option Addr) (n' c' : Nat) (l' : List Nat) (w : World) (h : Rd w A n c l) (h' : Rd w A' n' c' l') (ht : Lt l) (ht' : Lt l') (hn : n ≤ 40000) (hn' : n' ≤ 40000) :
    Calls Tryd.prog 54 #[.slice A n c, .slice A' n' c'] w (RetNat w (val l * val l')) := by
  have hmix : Tryd.prog.follows .mixedOrders = true := by kernel_rfl
  obtain ⟨W0, hW0⟩ : ∃ W0, w.alloc (Obj.cells #[mulFn w.heap.size] 28) = W0 := ⟨_, rfl⟩
  have bA : Below w.heap.size w W0 := hW0 ▸ (Below.refl _ w).alloc (Nat.le_refl _) _
  have cA : W0.cell? ⟨w.heap.size, 0, none⟩ = some (mulFn w.heap.size) := by
    rw [← hW0]
    rw [World.cell?_alloc_new]
    rfl
  unfold mulFn at hW0
  have hcl : ∀ W, Below W0.heap.size W0 W → W.cell? ⟨w.heap.size, 0, none⟩ = some (mulFn w.heap.size) := fun W hb => (hb.cell (p := ⟨w.heap.size, 0, none⟩) (lt_of_cell cA)).trans cA
  obtain ⟨mb, hmb⟩ : ∃ mb, w.heap.size = mb := ⟨_, rfl⟩
  go_enter Tryd.func54, Tryd.ntmps54
  go_wp2
  rw [hmb] at cA hcl hW0
  erw [hW0]
  refine (wpIn_wide (n := 0)).1 ?_
  refine wpIn_region_C 100 (fun W => W.cell? ⟨mb, 0, none⟩ = some (.func (.func 87) #[] #[.pointer (some ⟨mb, 0, none⟩)])) hmix ?_
  have b0 : Below W0.heap.size W0 W0.drew := (Below.refl _ W0).drew
  have c0 := hcl _ b0
  unfold mulFn at c0
  refine takeC (i := 0) (v := ?vv1) (by kernel_rfl) (by kernel_rfl) rfl (by kernel_rfl) (by kernel_rfl) (by kernel_rfl) (fun _ _ _ h => h) c0 ⟨.inl ⟨rfl, ?yy1⟩, fun _ => rfl⟩ ?_
  case yy1 =>
    rintro wx q1
    go_simp
    first | done | rfl
  refine takeC (i := 1) (v := ?vv2) (by kernel_rfl) (by kernel_rfl) rfl (by kernel_rfl) (by kernel_rfl) (by kernel_rfl) (fun _ _ _ h => h) c0 ⟨.inl ⟨rfl, ?yy2⟩, fun _ => rfl⟩ ?_
  case yy2 =>
    rintro wx q1
    go_simp
    first | done | rfl
  refine takeC (i := 3) (v := ?vv3) (by kernel_rfl) (by kernel_rfl) rfl (by kernel_rfl) (by kernel_rfl) (by kernel_rfl) (fun _ _ _ h => h) c0 ⟨.inl ⟨rfl, ?yy3⟩, fun _ => rfl⟩ ?_
  case yy3 =>
    rintro wx q1
    go_simp
    first | done | rfl
  have bw0 : Below w.heap.size w W0.drew := bA.drew
  have i1 := trim_any A n c l W0.drew (h.below bw0) ht (by omega)
  refine oneC (i := 2) (by kernel_rfl) rfl (fun K hK => ?_)
  go_simp
  refine CallsIn.mono (callsIn_wide.2 i1) ?_
  rintro e W1 ⟨A1, n1, c1, l1, rfl, hi1, hr1, hb1⟩
  have b1 := b0.trans (hb1.mono b0.size)
  have c1' := hcl _ b1
  unfold mulFn at c1'
  refine hK _ _ (.inr c1') ?_
  clear hK K i1
  have bw1 := bw0.trans (hb1.mono bw0.size)
  have i2 := trim_any A' n' c' l' W1 (h'.below bw1) ht' (by omega)
  refine oneC (i := 4) (by kernel_rfl) rfl (fun K hK => ?_)
  go_simp
  refine CallsIn.mono (callsIn_wide.2 i2) ?_
  rintro e W2 ⟨A2, n2, c2, l2, rfl, hi2, hr2, hb2⟩
  have b2 := b1.trans (hb2.mono b1.size)
  have c2' := hcl _ b2
  have c2'' := c2'
  unfold mulFn at c2'
  refine hK _ _ (.inr c2') ?_
  clear hK K i2
  have bw2 := bw1.trans (hb2.mono bw1.size)
  have hn1 : n1 ≤ 40000 := by
    rw [← hr1.len]
    exact Nat.le_trans (hi1.len (k := n) (by have := val_lt ht; rwa [h.len] at this)) hn
  have hn2 : n2 ≤ 40000 := by
    rw [← hr2.len]
    exact Nat.le_trans (hi2.len (k := n') (by have := val_lt ht'; rwa [h'.len] at this)) hn'
  have i3 := kmul_all 40000 (by omega) mb A1 n1 c1 l1 A2 n2 c2 l2 W2 (hr1.below hb2) hr2 hi1.lt hi2.lt hn1 hn2 c2''
  rw [hi1.val, hi2.val] at i3
  refine oneC (i := 5) (by kernel_rfl) rfl (fun K hK => ?_)
  go_simp
  refine CallsIn.mono (callsIn_wide.2 i3) ?_
  rintro e W3 ⟨A3, n3, c3, l3, rfl, hi3, hr3, hb3⟩
  have b3 := b2.trans (hb3.mono b2.size)
  have c3' := hcl _ b3
  unfold mulFn at c3'
  refine hK _ _ (.inr c3') ?_
  clear hK K i3
  refine oneC (i := 6) (by kernel_rfl) rfl (fun K hK => ?_)
  go_simp
  refine hK _ _ (.inr c3') ?_
  clear hK K
  refine doneP (by kernel_rfl) ?_
  have bw3 := bw2.trans (hb3.mono bw2.size)
  go_wp2
  all_goals
    go_ret
    exact ⟨A3, n3, c3, l3, rfl, hi3, hr3, bw3⟩
end Go.Proofs.Wd
