/- The walk of quot's more. -/
import Derived.Test.YtghgemeclgpibaaDoorKnuthC
namespace Go.Proofs.Wd
open Go.RowKit Lb

/-- What the loop of more keeps. -/
def MoreI (w : World) (D R rc : Nat) (lr : List Nat) (A : Option Addr) (n c : Nat) (lb : List Nat) (at_ : Nat) (ov i : Value) (W : World) : Prop :=
  ∃ (k o : Nat) (l' : List Nat), k ≤ n + 1 ∧ i = .int .i64 k ∧ ov = .int .u64 o ∧ o ≤ 1 ∧ l'.length = lr.length ∧ Lt l' ∧ (∀ x, x < at_ ∨ at_ + k ≤ x → lm l' x = lm lr x) ∧
    win l' at_ k + o * BB ^ k = win lr at_ k + sm (lm lb) k ∧ LongAt W D R rc l' A n c lb ∧ w.grownBy W (some R)
/-- What more answers. -/
def RetMore (w : World) (D R rc : Nat) (lr : List Nat) (A : Option Addr) (n c : Nat) (lb : List Nat) (at_ : Nat) : Ending → World → Prop := fun e w' => ∃ (f : Bool) (l' : List Nat), e = .returned (.bool f) ∧ l'.length = lr.length ∧ Lt l' ∧
  (∀ x, x < at_ ∨ at_ + (n + 1) ≤ x → lm l' x = lm lr x) ∧ win l' at_ (n + 1) + (if f then 1 else 0) * BB ^ (n + 1) = win lr at_ (n + 1) + val lb ∧ LongAt w' D R rc l' A n c lb ∧ w.grownBy w' (some R)

set_option maxHeartbeats 1000000 in
theorem more_any (D R rc : Nat) (lr : List Nat) (A : Option Addr) (n c : Nat) (lb : List Nat) (at_ : Nat) (w : World) (h : LongAt w D R rc lr A n c lb) (ht : Lt lr) (ht' : Lt lb) (hn : 0 < n) (hat : at_ + n < lr.length) :
    Calls Tryd.prog 109 #[.pointer (some ⟨D, 0, none⟩), .int .i64 (at_ : Int)] w (RetMore w D R rc lr A n c lb at_) := by
  have hcap := h.row.cap
  have hle := h.by_.le; have hcap' := h.by_.cap
  obtain ⟨⟨c0, c1⟩, _, _⟩ := h.box.facts2
  obtain ⟨N, hN⟩ : ∃ N, lr.length = N := ⟨_, rfl⟩
  rw [hN] at c0 hat hcap
  have HN := hid hN
  clear hN
  go_enter Tryd.func109, Tryd.ntmps109
  go_wp2
  go_loopw [5, 13] (MoreI w D R rc lr A n c lb at_) (fun _ i _ => n + 1 - (intOf i).toNat)
  case atStart => exact ⟨0, 0, lr, Nat.zero_le _, rfl, rfl, by omega, rfl, ht, fun _ _ => rfl, by simp [win, sm], h, ⟨rfl, rfl, rfl, Nat.le_refl _, fun _ _ _ => rfl⟩⟩
  case round =>
    obtain ⟨k, o, l', hk, rfl, rfl, ho, hl, hlt, hun, heq, hL, hG⟩ := hrel
    have HQ := hid heq
    have HU := hid hun
    clear heq hun
    obtain ⟨⟨g0, g1⟩, _, _⟩ := hL.box.facts2
    have hlN : l'.length = N := hl.trans HN.out
    rw [hlN] at g0
    by_cases hkn : k < n + 1
    · have gr := hL.row.cell (i := at_ + k) (by omega)
      have gf := hL.row.frozen (at_ + k)
      have hold1 : lm l' (at_ + k) = lm lr (at_ + k) := HU.out _ (.inr (Nat.le_refl _))
      have x1 := lm_BB hlt (at_ + k); have x2 := lm_BB ht' k
      simp only [BB] at x1 x2
      obtain ⟨old, hold⟩ : ∃ x, lm l' (at_ + k) = x := ⟨_, rfl⟩
      obtain ⟨x, hx⟩ : ∃ x, lm lb k = x := ⟨_, rfl⟩
      rw [hold] at gr x1 hold1
      rw [hx] at x2
      obtain ⟨s, z, o', hs, hs2, hz1, ho1, hz2, ho2, hm⟩ := more_step o x old ho x2 x1
      have hs3 : (o : Int) + (x : Int) + (old : Int) = (s : Int) := by omega
      have HX := hid hx; have HO := hid hold; have HO1 := hid hold1; have HM := hid hm
      clear hx hold hold1 hm hs
      have hend : MoreI w D R rc lr A n c lb at_ (.int .u64 (o' : Int)) (.int .i64 ((k : Int) + 1)) (wr.setCell ⟨R, at_ + k, none⟩ (.int .u32 (z : Int))) := by
        refine ⟨k + 1, o', l'.set (at_ + k) z, by omega, by go_num, rfl, ho2, by rw [List.length_set]; exact hl, Lt_set hlt hz2, fun y hy => ?_, ?_, hL.grown (setCell_grown wr _ _) (hL.row.set _ _) (by rw [List.length_set]), hG.trans (setCell_grown wr ⟨R, at_ + k, none⟩ _)⟩
        · rw [lm_set (by omega), if_neg (by omega)]
          exact HU.out y (by omega)
        · have e1 : lm (l'.set (at_ + k) z) (at_ + k) = z := by rw [lm_set (by omega), if_pos rfl]
          rw [win_succ, win_succ, win_set, e1, ← HO1.out, Nat.pow_succ]
          show _ + _ * (BB ^ k * 4294967296) = _ + (sm (lm lb) k + lm lb k * BB ^ k)
          rw [HX.out]
          exact more_math HQ.out HM.out
      have HE := hid hend
      clear hend
      rcases (by omega : k < n ∨ k = n) with hk2 | hk2
      · obtain ⟨b, off, rfl, hcb⟩ := hL.by_.cells k hk2
        rw [HX.out] at hcb
        go_wp2
        go_roundw
        case rel => exact HE.out
        case measure => simp [intOf]; omega
      · subst hk2
        have hx3 := HX.out
        rw [lm_ge (by rw [h.by_.len]; exact Nat.le_refl _)] at hx3
        subst hx3
        rw [Int.natCast_zero, Int.add_zero] at hs3
        go_wp2
        go_roundw
        case rel => exact HE.out
        case measure => simp [intOf]
    · obtain rfl : k = n + 1 := by omega
      have hv : sm (lm lb) (n + 1) = val lb := val_eq (by rw [h.by_.len]; omega)
      have hq := HQ.out
      rw [hv] at hq
      have hr : ∀ f : Bool, (if f = true then 1 else 0) = o → RetMore w D R rc lr A n c lb at_ (.returned (.bool f)) wr := fun f hf =>
        ⟨f, l', rfl, hl, hlt, HU.out, by rw [hf, hq], hL, hG⟩
      have HR := hid hr
      clear hq hr hv
      go_wp2
      rcases (by omega : o = 0 ∨ o = 1) with rfl | rfl
      · go_ret
        exact HR.out false rfl
      · go_ret
        exact HR.out true rfl
end Go.Proofs.Wd
