/- Walks: nat.Sub of too little, sint's all, add, Add, Sub, Cmp, Same. -/
import Derived.Test.YtghgemeclgpibaaDoorSintA
import Derived.Test.YtghgemeclgpibaaDoorNatC
import Derived.Test.YtghgemeclgpibaaDoorIter
import Derived.Test.YtghgemeclgpibaaDoorOrder
namespace Go.Proofs.Wd
open Go.RowKit Lb
attribute [local go_sem] Oper.semAt_some wide_fn wide_depth

set_option maxRecDepth 100000 in
set_option maxHeartbeats 1000000 in
theorem sub_less (A : Option Addr) (n c : Nat) (l : List Nat) (A' : Option Addr) (n' c' : Nat) (l' : List Nat) (w : World) (h : Rd w A n c l) (h' : Rd w A' n' c' l') (ht : Lt l) (ht' : Lt l') (hge : val l < val l') :
    Calls Tryd.prog 111 #[.slice A n c, .slice A' n' c'] w fun e w' => e = .returned (.tuple #[.slice none 0 0, .int .i64 10]) ∧ Below w.heap.size w w' := by
  have hcmp : decide (cmpOf (val l) (val l') < 0) = true := by
    unfold cmpOf
    rw [if_pos (by omega)]
    rfl
  refine calls_marks Tryd.func111 rfl ?_
  simp only [Tryd.ntmps111, List.size_toArray, List.length_cons, List.length_nil, Nat.reduceAdd, Nat.reduceSub, Array.replicate_succ, Array.replicate_zero, List.push_toArray, List.append_toArray, List.nil_append, List.cons_append]
  go_wp2_with (go_at_call 82; refine (cmp_any A n c l A' n' c' l' _ h h' ht ht').mono ?_; rintro e w1 ⟨rfl, rfl⟩)
  exact leaves_marks (B := w.heap.size) w (fun w' _ => results_tmp2 rfl _ _ w') [] _ _ (Marks.nil _ _) (Oth.refl _ _) fun w' ho => ⟨rfl, below_oth (Below.refl _ w) ho (Nat.le_refl _)⟩

set_option maxHeartbeats 400000 in
theorem all_any (A : Option Addr) (n c : Nat) (w : World) :
    Calls Tryd.prog 96 #[.slice A n c] w fun e w' => e = .returned (.func (.func 113) #[] #[.pointer (some ⟨w.heap.size, 0, none⟩)]) ∧ w' = w.alloc (.cells #[.slice A n c] 101) := by
  go_enter Tryd.func96, Tryd.ntmps96
  go_wp2
  go_ret
  exact ⟨rfl, rfl⟩
/-- A slice of integers: its cells lie two by two. -/
structure IRdM (m : Nat) (w : World) (A : Option Addr) (n : Nat) (is : List (Bool × List Nat)) : Prop where
  len : is.length = n
  cells : ∀ i, i < n → ∃ b o s Ai ni ci li, A = some ⟨b, o, none⟩ ∧ w.cell? ⟨b, o + i * 2, none⟩ = some (.bool s) ∧ w.cell? ⟨b, o + i * 2 + 1, none⟩ = some (.slice Ai ni ci) ∧ is[i]? = some (s, li) ∧ Rd w Ai ni ci li ∧ Lt li ∧ ni ≤ m
theorem IRdM.keep {m : Nat} {w w' : World} {A : Option Addr} {n : Nat} {is : List (Bool × List Nat)} (h : IRdM m w A n is) (hk : ∀ p : Addr, p.block < w.heap.size → w'.cell? p = w.cell? p) : IRdM m w' A n is :=
  ⟨h.len, fun i hi => by
    obtain ⟨b, o, s, Ai, ni, ci, li, e, hc, hc', h1, h2, h3⟩ := h.cells i hi
    exact ⟨b, o, s, Ai, ni, ci, li, e, (hk _ (World.block_lt_of_cell? w _ hc)).trans hc, (hk _ (World.block_lt_of_cell? w _ hc')).trans hc', h1, h2.keep hk, h3⟩⟩
theorem IRdM.below {m : Nat} {w w' : World} {A : Option Addr} {n : Nat} {is : List (Bool × List Nat)} (h : IRdM m w A n is) (hb : Below w.heap.size w w') : IRdM m w' A n is := h.keep fun _ hp => hb.cell hp
abbrev IRd := IRdM 1099511627776
/-- The k-th of a row of integers. -/
def ivAt (is : List (Bool × List Nat)) (k : Nat) : Int := (is[k]?.map fun p => iv p.1 p.2).getD 0

/-- What all hands over. -/
def AllE (N0 : Nat) (is : List (Bool × List Nat)) (k : Nat) (xs : Array Value) (W : World) : Prop := ∃ B, xs = #[.pointer (some ⟨B, 0, none⟩)] ∧ N0 ≤ B ∧ NumAt W B (ivAt is k)

/-- Blocks kept, and none lost. -/
def KeepZ (S : Nat → Prop) (A B : World) : Prop := KeepS S A B ∧ A.heap.size ≤ B.heap.size
theorem KeepZ.trans {S : Nat → Prop} {A B C : World} (h : KeepZ S A B) (k : KeepZ S B C) : KeepZ S A C := ⟨h.1.trans k.1, Nat.le_trans h.2 k.2⟩
theorem keepZ_b {S : Nat → Prop} {n : Nat} (hS : ∀ b, S b → b < n) (W : World) (l : Nat) (o o' : Obj) (hl : n ≤ l) (h1 : W.heap[l]? = some o) (h2 : o.isCells = false) : KeepZ S W (W.putObj l o') :=
  ⟨keepS_b hS W l o o' hl h1 h2, Nat.le_of_eq (World.putObj_size ..).symm⟩

set_option maxRecDepth 100000 in
set_option maxHeartbeats 1000000 in
theorem all1_iter (A : Option Addr) (n c : Nat) (is : List (Bool × List Nat)) (b1 : Nat) (w w0 : World) (h : IRd w A n is) (hw0 : Below w.heap.size w w0) (hn : n ≤ c) (hc : c ≤ 1000000)
    (hc1 : w0.cell? ⟨b1, 0, none⟩ = some (.slice A n c)) {S : Nat → Prop} (hS : ∀ b, S b → b < w0.heap.size) (_hS1 : S b1) (hSA : ∀ b, b < w.heap.size → S b) :
    IterE Tryd.prog 113 #[.pointer (some ⟨b1, 0, none⟩)] (AllE w0.heap.size is) n (KeepZ S) Mk (fun _ => True) w0 := by
  intro lp J W hW hJ hY h0
  have hl1 := lt_of_cell hc1
  have hw1 := (hW.cell (p := ⟨b1, 0, none⟩) hl1).trans hc1
  refine calls_in Tryd.func113 rfl ?_
  simp only [Tryd.ntmps113, List.size_toArray, List.length_cons, List.length_nil, Nat.reduceAdd, Nat.reduceSub, Array.replicate_succ, Array.replicate_zero, List.push_toArray, List.append_toArray, List.nil_append, List.cons_append]
  gi_wp2
  gi_loopw [7] (fun i wr => ∃ k : Nat, k ≤ n ∧ i = .int .i64 k ∧ J k wr ∧ KeepS S w0 wr ∧ w0.heap.size ≤ wr.heap.size) (fun i _ => n - (intOf i).toNat)
  case atStart => exact ⟨0, Nat.zero_le _, rfl, h0, KeepS.of_below hW hS, hW.size⟩
  case round =>
    obtain ⟨k, hk, rfl, hj, hb, hz⟩ := hrel
    by_cases hkn : k < n
    · obtain ⟨b, o, s, Ai, ni, ci, li, rfl, p1, p2, hi, hr, hli, hni⟩ := (h.keep (w' := wr) fun p hp => (hb.cell (hSA _ hp)).trans (hw0.cell hp)).cells k hkn
      have hid1 : ivAt is k = iv s li := by simp [ivAt, hi]
      have hjk := hJ k wr
      gi_wp2_with (first | (gi_at_call 95; refine CallsIn.mono (callsIn_wide.2 (sof_any s Ai ni ci li _ (hr.alloc _) hli hni)) ?_; rintro e w2 ⟨B2, rfl, hB2, hn2, hb2⟩; have hmk : Mk wr w2 := ((Below.refl _ wr).alloc (Nat.le_refl _) _).trans (hb2.mono (by simp)); obtain ⟨fn, tmps, assign, body, hy, hR⟩ := hY k w2 #[.pointer (some ⟨B2, 0, none⟩)] hkn (hjk _ hj hmk) ⟨B2, rfl, Nat.le_trans hz (Nat.le_trans (by simp) hB2), by rw [hid1]; exact hn2⟩) | (refine hR.mono ?_; rintro e W3 ⟨rfl, hJ3, hk3⟩))
      refine ⟨⟨k + 1, by omega, rfl, hJ3, (hb.trans (KeepS.of_below hmk fun b hb => Nat.lt_of_lt_of_le (hS b hb) hz)).trans hk3.1, Nat.le_trans hz (Nat.le_trans hmk.size hk3.2)⟩, ?_⟩
      simp [intOf]
      omega
    · obtain rfl : k = n := by omega
      gi_wp2
      go_end0
      exact ⟨⟨_, rfl⟩, hj, trivial⟩

theorem NumAt.grown {W W' : World} {B : Nat} {v : Int} {b : Nat} {u : Int} (h : NumAt W B v) (hu : NumAt W b u) (hne : B ≠ b) (hg : W.grownBy W' (some b)) : NumAt W' B v := by
  obtain ⟨A, n, c, l, h1, h2, h3⟩ := h
  obtain ⟨A', n', c', l', g1, _⟩ := hu
  refine ⟨A, n, c, l, (hg.block B h1.lt (fun e => hne (by cases e; rfl))).trans h1, h2, ⟨h3.len, h3.le, h3.cap, h3.nil, fun i hi => ?_⟩⟩
  obtain ⟨b', o, e, hc⟩ := h3.cells i hi
  refine ⟨b', o, e, (World.cell?_of_block (hg.block _ (World.block_lt_of_cell? W _ hc) ?_)).trans hc⟩
  intro e'
  simp only [Option.some.injEq] at e'
  subst e'
  rw [g1.cell] at hc
  rcases (by omega : o + i = 0 ∨ o + i = 1 ∨ 2 ≤ o + i) with e | e | e
  · rw [e] at hc; simp at hc
  · rw [e] at hc; simp at hc
  · rw [Array.getElem?_eq_none (by simp; omega)] at hc; cases hc

end Go.Proofs.Wd
