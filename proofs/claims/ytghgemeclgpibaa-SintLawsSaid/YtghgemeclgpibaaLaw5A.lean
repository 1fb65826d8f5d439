/- Walks of straitlaw05: small, same. -/
import Derived.Test.YtghgemeclgpibaaSintF
import Derived.Test.YtghgemeclgpibaaRef5A
namespace Go.Proofs.Wd
open Go.RowKit Lb
attribute [local go_sem] Oper.semAt_some wide_fn wide_depth

/-- As it is told, two integers are the same just if their values are. -/
theorem told_eq {v v' : Int} {l l' : List Nat} (h : Is l v.natAbs) (h' : Is l' v'.natAbs) : (decide (v < 0) == decide (v' < 0) && decide (l = l')) = decide (v = v') := by
  have e := h.eq_iff h'
  by_cases hl : l = l'
  · have ea := e.1 hl
    rw [decide_eq_true hl, Bool.and_true]
    by_cases h0 : v < 0 <;> by_cases h1 : v' < 0
    · rw [decide_eq_true h0, decide_eq_true h1, decide_eq_true (by omega : v = v')]; rfl
    · rw [decide_eq_true h0, decide_eq_false h1, decide_eq_false (by omega : ¬ v = v')]; rfl
    · rw [decide_eq_false h0, decide_eq_true h1, decide_eq_false (by omega : ¬ v = v')]; rfl
    · rw [decide_eq_false h0, decide_eq_false h1, decide_eq_true (by omega : v = v')]; rfl
  · rw [decide_eq_false hl, Bool.and_false, decide_eq_false]
    intro hv
    exact hl (e.2 (by rw [hv]))

set_option maxHeartbeats 400000 in
theorem lawsame_any (v : Int) (A : Option Addr) (n c : Nat) (l : List Nat) (v' : Int) (A' : Option Addr) (n' c' : Nat) (l' : List Nat) (w : World) (h : Rd w A n c l) (hi : Is l v.natAbs) (h' : Rd w A' n' c' l') (hi' : Is l' v'.natAbs) (s s' : Bool) (hs : decide (v < 0) = s) (hs' : decide (v' < 0) = s') :
    Calls Try.prog 13 #[.agg #[.bool s, .slice A n c], .agg #[.bool s', .slice A' n' c']] w fun e w' => e = .returned (.bool (decide (v = v'))) ∧ Below w.heap.size w w' := by
  have hb0 := ((Below.refl _ w).alloc (Nat.le_refl _) (.cells #[.bool s, .slice A n c] 25)).alloc (by simp) (.cells #[.bool s', .slice A' n' c'] 25)
  have ht := r5told_any s A n c l s' A' n' c' l' _ (h.below hb0) (h'.below hb0)
  have hte := told_eq hi hi'
  rw [hs, hs'] at hte
  rw [hte] at ht
  go_enter Try.func13, Try.ntmps13
  go_wp2_with (go_at_call 39; refine ht.mono ?_; rintro e w2 ⟨rfl, hb2⟩)
  go_ret
  exact ⟨rfl, hb0.trans (hb2.mono hb0.size)⟩

set_option maxRecDepth 100000 in
set_option maxHeartbeats 1000000 in
theorem lawsmall_any (v : Int) (A : Option Addr) (n c : Nat) (l : List Nat) (k : Int) (w : World) (h : Rd w A n c l) (hi : Is l v.natAbs) (s : Bool) (hs : decide (v < 0) = s) (hk : -9223372036854775808 ≤ k) (hk2 : k ≤ 9223372036854775807) :
    Calls Try.prog 12 #[.agg #[.bool s, .slice A n c], .int .i64 k] w fun e w' => e = .returned (.bool (decide (v = k))) ∧ Below w.heap.size w w' := by
  have hmix : Try.prog.follows .mixedOrders = true := by kernel_rfl
  have hb0 := (Below.refl _ w).alloc (Nat.le_refl _) (.cells #[.bool s, .slice A n c] 25)
  go_enter Try.func12, Try.ntmps12
  go_wp2
  refine (wpIn_wide (n := 0)).1 ?_
  have x0 := BoxN.new w 25 #[.bool s, .slice A n c]
  generalize hW0 : w.alloc (.cells #[.bool s, .slice A n c] 25) = W0 at *
  refine wpIn_region_C 100 (fun W => W.cell? ⟨w.heap.size, 0, none⟩ = some (.bool s) ∧ W.cell? ⟨w.heap.size, 1, none⟩ = some (.slice A n c)) hmix ?_
  have d1 := x0.facts2.1
  refine takeC (i := 0) (v := ?vv1) (by kernel_rfl) (by kernel_rfl) rfl (by kernel_rfl) (by kernel_rfl) (by kernel_rfl) (fun _ _ _ h => h) d1 ⟨.inl ⟨rfl, ?yy1⟩, fun _ => rfl⟩ ?_
  case yy1 =>
    rintro wx ⟨q1, q2⟩
    go_simp
    first | done | rfl
  refine takeC (i := 1) (v := ?vv2) (by kernel_rfl) (by kernel_rfl) rfl (by kernel_rfl) (by kernel_rfl) (by kernel_rfl) (fun _ _ _ h => h) d1 ⟨.inl ⟨rfl, ?yy2⟩, fun _ => rfl⟩ ?_
  case yy2 =>
    rintro wx ⟨q1, q2⟩
    go_simp
    first | done | rfl
  refine oneC (i := 2) (by kernel_rfl) rfl (fun K hK => ?_)
  go_simp
  refine CallsIn.mono (callsIn_wide.2 (r5of_any k hk hk2 _)) ?_
  rintro e w2 ⟨A2, n2, c2, l2, rfl, hi2, hr2, hb2⟩
  have hB2 : Below W0.heap.size W0 w2 := ((Below.refl _ W0).drew).trans hb2
  obtain ⟨s2, hs2⟩ : ∃ s2, decide (k < 0) = s2 := ⟨_, rfl⟩
  simp only [hs2]
  refine hK _ _ (.inr (x0.kept hB2).facts2.1) ?_
  clear hK K
  refine oneC (i := 3) (by kernel_rfl) rfl (fun K hK => ?_)
  go_simp
  have ht := r5told_any s A n c l s2 A2 n2 c2 l2 _ (h.below (hb0.trans (hB2.mono hb0.size))) hr2
  have hte := told_eq hi hi2
  rw [hs, hs2] at hte
  rw [hte] at ht
  refine CallsIn.mono (callsIn_wide.2 ht) ?_
  rintro e w3 ⟨rfl, hb3⟩
  have hB3 : Below W0.heap.size W0 w3 := hB2.trans (hb3.mono hB2.size)
  refine hK _ _ (.inr (x0.kept hB3).facts2.1) ?_
  clear hK K
  refine oneC (i := 4) (by kernel_rfl) rfl (fun K hK => ?_)
  go_simp
  refine hK _ _ (.inr (x0.kept hB3).facts2.1) ?_
  clear hK K
  refine doneP (by kernel_rfl) ?_
  go_wp2
  go_ret
  exact ⟨rfl, hb0.trans (hB3.mono hb0.size)⟩
end Go.Proofs.Wd
