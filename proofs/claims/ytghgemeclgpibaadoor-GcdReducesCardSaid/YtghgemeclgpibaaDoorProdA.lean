/- Walks of prod's limbs, plain, less, above. -/
import Derived.Test.YtghgemeclgpibaaDoorRef2
import Derived.Test.YtghgemeclgpibaaDoorQuotA
import Derived.Test.YtghgemeclgpibaaDoorNatC
import Derived.Test.YtghgemeclgpibaaDoorIter
namespace Go.Proofs.Wd
open Go.RowKit Lb
attribute [local go_sem] Oper.semAt_some wide_fn wide_depth

/-- How many of the first j limbs are not nought. -/
def cnt (l : List Nat) : Nat → Nat
  | 0 => 0
  | j + 1 => cnt l j + if lm l j = 0 then 0 else 1
theorem cnt_mono {l : List Nat} {i : Nat} : ∀ {j : Nat}, i ≤ j → cnt l i ≤ cnt l j
  | 0, h => by obtain rfl : i = 0 := by omega
               exact Nat.le_refl _
  | j + 1, h => by
    rcases (by omega : i ≤ j ∨ i = j + 1) with e | rfl
    · exact Nat.le_trans (cnt_mono e) (Nat.le_add_right _ _)
    · exact Nat.le_refl _
theorem cnt_zero {l : List Nat} {j : Nat} (h : lm l j = 0) : cnt l (j + 1) = cnt l j := by
  show cnt l j + (if lm l j = 0 then 0 else 1) = _
  rw [if_pos h, Nat.add_zero]
theorem cnt_one {l : List Nat} {j : Nat} (h : lm l j ≠ 0) : cnt l (j + 1) = cnt l j + 1 := by
  show cnt l j + (if lm l j = 0 then 0 else 1) = _
  rw [if_neg h]
theorem cnt_gap {l : List Nat} {i j x : Nat} (h : cnt l i = cnt l j) (h1 : i ≤ x) (h2 : x < j) : lm l x = 0 := by
  rcases Nat.eq_zero_or_pos (lm l x) with e | e
  · exact e
  · exfalso
    have g1 := cnt_mono (l := l) h1
    have g2 := cnt_one (l := l) (j := x) (by omega)
    have g3 := cnt_mono (l := l) (i := x + 1) (j := j) h2
    omega
theorem cnt_same {l : List Nat} {i j : Nat} (h : cnt l i = cnt l j) : sm (lm l) i = sm (lm l) j := by
  rcases Nat.le_total i j with e | e
  · exact (sm_ext e fun x h1 h2 => cnt_gap h h1 h2).symm
  · exact sm_ext e fun x h1 h2 => cnt_gap h.symm h1 h2

/-- What limbs hands over. -/
def LimbE (l : List Nat) (n k : Nat) (xs : Array Value) (_W : World) : Prop := ∃ p : Nat, xs = #[.int .i64 (p : Int), .int .u64 (lm l p : Nat)] ∧ p < n ∧ lm l p ≠ 0 ∧ cnt l p = k

set_option maxHeartbeats 400000 in
theorem plimbs_any (A : Option Addr) (n c : Nat) (w : World) :
    Calls Tryd.prog 110 #[.slice A n c] w fun e w' => e = .returned (.func (.func 119) #[] #[.pointer (some ⟨w.heap.size, 0, none⟩)]) ∧ w.alloc (.cells #[.slice A n c] 23) = w' := by
  go_enter Tryd.func110, Tryd.ntmps110
  go_wp2
  go_ret
  exact ⟨rfl, rfl⟩

set_option maxRecDepth 100000 in
set_option maxHeartbeats 1000000 in
theorem plimbs1_iter (A : Option Addr) (n c : Nat) (l : List Nat) (b1 : Nat) (w0 : World) (h : Rd w0 A n c l) (ht : Lt l) (hc1 : w0.cell? ⟨b1, 0, none⟩ = some (.slice A n c)) {S : Nat → Prop} (hS : ∀ b, S b → b < w0.heap.size) (hSA : ∀ b o, 0 < n → A = some ⟨b, o, none⟩ → S b) :
    IterE Tryd.prog 119 #[.pointer (some ⟨b1, 0, none⟩)] (LimbE l n) (cnt l n) (KeepS S) Mk (fun _ => True) w0 := by
  intro lp J W hW hJ hY h0
  have hle := h.le; have hcap := h.cap
  have hw1 := (hW.cell (p := ⟨b1, 0, none⟩) (lt_of_cell hc1)).trans hc1
  refine calls_in Tryd.func119 rfl ?_
  simp only [Tryd.ntmps119, List.size_toArray, List.length_cons, List.length_nil, Nat.reduceAdd, Nat.reduceSub, Array.replicate_succ, Array.replicate_zero, List.push_toArray, List.append_toArray, List.nil_append, List.cons_append]
  gi_wp2
  gi_loopw [7] (fun i wr => ∃ j : Nat, j ≤ n ∧ i = .int .i64 j ∧ J (cnt l j) wr ∧ KeepS S w0 wr) (fun i _ => n - (intOf i).toNat)
  case atStart => exact ⟨0, Nat.zero_le _, rfl, h0, KeepS.of_below hW hS⟩
  case round =>
    obtain ⟨j, hj, rfl, hJ1, hb⟩ := hrel
    by_cases hjn : j < n
    · obtain ⟨b, o, rfl, hc⟩ := (h.keepS hb hSA).cells j hjn
      have x1 := lm_BB ht j
      simp only [BB] at x1
      by_cases hz : lm l j = 0
      · have hJ2 : J (cnt l (j + 1)) wr := by rw [cnt_zero hz]; exact hJ1
        rw [hz] at hc
        clear hz
        gi_wp2
        go_roundw
        case rel => exact ⟨j + 1, by omega, by go_num, hJ2, hb⟩
        case measure => simp [intOf]; omega
      · have hcl : cnt l j < cnt l n := by
          have g1 := cnt_one (l := l) (j := j) hz
          have g2 := cnt_mono (l := l) (i := j + 1) (j := n) hjn
          omega
        obtain ⟨fn, tmps, assign, body, hy, hR⟩ := hY (cnt l j) wr _ hcl hJ1 ⟨j, rfl, hjn, hz, rfl⟩
        rw [← cnt_one hz] at hR
        obtain ⟨x, hx⟩ : ∃ x, lm l j = x := ⟨_, rfl⟩
        rw [hx] at hc hy x1 hz
        have hxb : ((x : Int) != 0) = true := by simp only [bne_iff_ne, ne_eq]; omega
        clear hx hcl hz
        gi_wp2
        refine hR.mono ?_
        rintro e W3 ⟨rfl, hJ3, hk3⟩
        clear hy
        gi_wp2
        go_roundw
        case rel => exact ⟨j + 1, by omega, by go_num, hJ3, hb.trans hk3⟩
        case measure => simp [intOf]; omega
    · obtain rfl : j = n := by omega
      gi_wp2
      go_end0
      exact ⟨⟨_, rfl⟩, hJ1, trivial⟩

/-- Nothing more than a difference that there is. -/
theorem pless_any (A : Option Addr) (n c : Nat) (A' : Option Addr) (n' c' : Nat) (w : World) (v : Nat) (hs : Calls Tryd.prog 111 #[.slice A n c, .slice A' n' c'] w fun e w' => ∃ A1 n1 c1 l1, e = .returned (.tuple #[.slice A1 n1 c1, .int .i64 0]) ∧ Is l1 v ∧ Rd w' A1 n1 c1 l1 ∧ Below w.heap.size w w') :
    Calls Tryd.prog 89 #[.slice A n c, .slice A' n' c'] w (RetNat w v) := by
  go_enter Tryd.func89, Tryd.ntmps89
  go_wp2_with (go_at_call 111; refine hs.mono ?_; rintro e w2 ⟨A1, n1, c1, l1, rfl, hi1, hr1, hb1⟩)
  go_ret
  exact ⟨A1, n1, c1, l1, rfl, hi1, hr1, hb1⟩

/-- A number so many limbs further up. -/
def RetUp (w : World) (k : Nat) (l : List Nat) (e : Ending) (w' : World) : Prop := ∃ A n c, e = .returned (.slice A n c) ∧ Rd w' A n c (List.replicate k 0 ++ l) ∧ Below w.heap.size w w'
theorem val_above (k : Nat) (l : List Nat) : val (List.replicate k 0 ++ l) = BB ^ k * val l := by
  rw [val_append, val_replicate, List.length_replicate, Nat.zero_add]
theorem own_made (k : Nat) (h : k ≤ 17592186044416) (w : World) : Own32 (w.alloc (.cells (madeCells #[.int .u32 0] k) 49)) w.heap.size 49 (.slice (some ⟨w.heap.size, 0, none⟩) k k) (List.replicate k 0) := by
  rw [made_zero]
  exact ⟨by rw [u32s_len, List.length_replicate, Nat.mul_one], .inr ⟨w.heap.size, k, _, by rw [List.length_replicate], Nat.le_refl _, heap_alloc_new w _, by rw [List.length_replicate]; exact Nat.le_refl _, by unfold maxLen; omega, by simp [u32s], by simp [u32s]⟩⟩

set_option maxHeartbeats 1000000 in
theorem above_any (A : Option Addr) (n c : Nat) (l : List Nat) (k : Nat) (w : World) (h : Rd w A n c l) (hn : n ≤ 100000) (hk : k ≤ 100000) :
    Calls Tryd.prog 90 #[.slice A n c, .int .i64 (k : Int)] w (RetUp w k l) := by
  have hmk := fun wx => run_make32 k (by omega) wx
  have hown := own_made k (by omega) w
  have hb0 := (Below.refl _ w).alloc (Nat.le_refl _) (.cells (madeCells #[.int .u32 0] k) 49)
  have hs1 : (List.replicate k 0).length + l.length ≤ 17592186044416 := by rw [List.length_replicate, h.len]; omega
  have hl1 : (List.replicate k 0 ++ l).length = k + n := by rw [List.length_append, List.length_replicate, h.len]
  go_enter Tryd.func90, Tryd.ntmps90
  go_wp2_with (at_builtin; refine wpList_append_rd rfl _ _ 23 49 rfl u32_under u32_info w.heap.size _ (List.replicate k 0) rfl hown A n c l rfl (h.below hb0) hs1 hb0.size ?_; intro v1 w3 hown1 hg1 hat1; obtain ⟨A1, c1, rfl⟩ := hown1.form' hl1)
  go_ret
  exact ⟨A1, k + n, c1, rfl, hown1.rd, Own32.grown hb0 hown hg1 (Nat.le_refl _) hb0.size⟩
end Go.Proofs.Wd
