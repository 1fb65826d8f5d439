/- The walk of sint.Mul. -/
import Derived.Test.YtghgemeclgpibaaSintI
import Derived.Test.YtghgemeclgpibaaRef5C
namespace Go.Proofs.Wd
open Go.RowKit Lb
attribute [local go_sem] Oper.semAt_some wide_fn wide_depth

theorem of_one (w : World) : Calls Try.prog 27 #[.int .i64 1] w fun e w' => ∃ A n c l, e = .returned (.agg #[.bool false, .slice A n c]) ∧ Is l 1 ∧ Rd w' A n c l ∧ n ≤ 1 ∧ Below w.heap.size w w' :=
  (sof2_any 1 (by omega) (by omega) w).mono fun e w' ⟨A, n, c, l, h1, h2, h3, h4⟩ => ⟨A, n, c, l, h1, h2, h3, by rw [← h3.len]; exact h2.len (k := 1) (by decide), h4⟩

/-- What the loop of Mul keeps. -/
def SmulI (w : World) (B0 P : Nat) (is : List (Bool × List Nat)) (k : Nat) (W : World) : Prop :=
  NumAt W B0 (iprod is k) ∧ Boxed W P 46 (.pointer (some ⟨B0, 0, none⟩)) ∧ BoxN W w.heap.size 25 #[.bool false, .slice none 0 0] ∧ Below w.heap.size w W ∧ P + 2 ≤ W.heap.size

theorem smulI_own (w : World) (B0 P : Nat) (is : List (Bool × List Nat)) {C : Nat} (hC : w.heap.size ≤ C) : OwnFrom C (SmulI w B0 P is) := by
  rintro k W W' row ⟨h1, h2, h3, h4, h5⟩ hg hr
  exact ⟨h1.abide hg hr, boxed_abide h2 hg hr, h3.abide hg hr, below_abide h4 hg (Nat.le_refl _) hC hr, Nat.le_trans h5 hg.size⟩

set_option maxRecDepth 100000 in
set_option maxHeartbeats 1000000 in
theorem smul_any (A : Option Addr) (n c : Nat) (is : List (Bool × List Nat)) (M : Nat) (w : World) (h : IRd w A n is) (hn : n ≤ c) (hc : c ≤ 1000000) (hM : M ≤ 40000) (hv : ∀ k, (ivAt is k).natAbs < BB ^ M) (hp : ∀ k, k ≤ n → (iprod is k).natAbs < BB ^ M) :
    Calls Try.prog 24 #[.slice A n c] w (RetInt w (iprod is n)) := by
  refine calls_marks Try.func24 rfl ?_
  simp only [Try.ntmps24, List.size_toArray, List.length_cons, List.length_nil, Nat.reduceAdd, Nat.reduceSub, Array.replicate_succ, Array.replicate_zero, List.push_toArray, List.append_toArray, List.nil_append, List.cons_append]
  go_wp2_with (first | (go_at_call 27; refine (of_one _).mono ?_; rintro e w1 ⟨A1, n1, c1, l1, rfl, hi1, hr1, hn1, hb1⟩) | (go_at_call 35; refine (sof_any false A1 n1 c1 l1 _ hr1 hi1.lt (by omega)).mono ?_; rintro e w2 ⟨B0, rfl, hB0, hn0, hb0⟩) | (go_at_call 44; refine (all_any A n c _).mono ?_; rintro e w3 ⟨rfl, rfl⟩))
  have hiv0 : iv false l1 = 1 := by unfold iv; rw [hi1.val]; rfl
  rw [hiv0] at hn0
  obtain ⟨W0, hW0⟩ : ∃ W0, ((w2.alloc (.cells #[.pointer (some ⟨B0, 0, none⟩)] 46)).alloc (.cells #[.slice A n c] 44)) = W0 := ⟨_, rfl⟩
  have hsz : W0.heap.size = w2.heap.size + 2 := by rw [← hW0]; simp
  have hB0l := hn0.lt
  have hbw1 : Below w.heap.size w w1 := ((Below.refl _ w).alloc (Nat.le_refl _) _).trans (hb1.mono (by simp))
  have hsz1 : w.heap.size < w1.heap.size := Nat.lt_of_lt_of_le (by simp) hb1.size
  have hB0g : w.heap.size < B0 := Nat.lt_of_lt_of_le hsz1 hB0
  have hbw2 : Below w.heap.size w w2 := hbw1.trans (hb0.mono hbw1.size)
  have hB1 : Below w.heap.size w W0 := by rw [← hW0]; exact (hbw2.alloc hbw2.size _).alloc (by simp; exact Nat.le_succ_of_le hbw2.size) _
  have x0 : NumAt W0 B0 1 := by rw [← hW0]; exact hn0.kept (((Below.refl _ w2).alloc (Nat.le_refl _) _).alloc (by simp) _)
  have x1 : Boxed W0 w2.heap.size 46 (.pointer (some ⟨B0, 0, none⟩)) := by rw [← hW0]; exact (Boxed.new w2 _ _).alloc _
  have x2 : Boxed W0 (w2.heap.size + 1) 44 (.slice A n c) := by rw [← hW0]; exact boxed_at _ _ _ (by simp)
  have x3 : BoxN W0 w.heap.size 25 #[.bool false, .slice none 0 0] := by rw [← hW0]; exact (((res2 hb1 rfl).kept hb0).alloc _).alloc _
  rw [hW0]
  clear hW0
  have hSb : ∀ b, (b < w.heap.size ∨ b = w2.heap.size + 1) → b < W0.heap.size := fun b hb => by have := hbw2.size; omega
  refine wp_rangeE (gf := 65) rfl (enters_of Try.func65 (by kernel_rfl) rfl) (all1_iter A n c is (w2.heap.size + 1) w W0 h hB1 hn hc x2.cell (S := fun b => b < w.heap.size ∨ b = w2.heap.size + 1) hSb (.inr rfl) (fun b hb => .inl hb)) ?hE ?hps KeepZ.trans (keepZ_b hSb)
    (SmulI w B0 w2.heap.size is) (smulI_own w B0 _ is hB1.size) (abide_mk (smulI_own w B0 _ is (Nat.le_refl _))) Mk.keeps (fun _ _ _ _ _ _ _ _ => trivial) ⟨x0, x1, x3, hB1, Nat.le_of_eq hsz.symm⟩
    (fun xs => { tmps := #[.slice A n c, undef, .pointer (some ⟨w.heap.size, 0, none⟩), .pointer (some ⟨w2.heap.size, 0, none⟩), xs.getD 0 undef, .agg #[.bool false, .slice A1 n1 c1], .pointer (some ⟨B0, 0, none⟩), .slice A n c, .func (.func 65) #[] #[.pointer (some ⟨w2.heap.size + 1, 0, none⟩)], xs.getD 0 undef, undef, undef, undef, undef, undef, undef, undef], defers := [] }) ?assign ?body ?done
  case hE =>
    rintro k xs W l o o' ⟨B, rfl, h1, h2⟩ ho hc
    exact ⟨B, rfl, h1, h2.abide (C := 0) (grownBy_putObj' W l o') (fun r e => by cases e; exact ⟨Nat.zero_le _, o, ho, hc⟩)⟩
  case hps =>
    rintro k xs W ⟨B, rfl, _⟩
    rfl
  case assign =>
    rintro lp k xs W K ⟨B, rfl, h1, h2⟩ hK
    gi_wp2
    exact hK
  case body =>
    rintro lp k xs W hk ⟨h1, h2, h3, h4, h5⟩ ⟨B, rfl, hB, hnb⟩
    have hc2 := h2.cell
    have hne : B ≠ B0 := by omega
    have hkm : k ≤ 1000000 := by omega
    have hbd := hp k (Nat.le_of_lt hk)
    have hbd2 := hv k
    gi_wp2_with (gi_at_call 47; refine CallsIn.mono (callsIn_wide.2 (num_mul B0 B _ _ M W h1 hnb hbd hbd2 hM)) ?_; rintro e w3 ⟨⟨u, rfl⟩, hn3, hg3⟩)
    have hbx : ∃ vs t, BoxN W B0 t vs := by obtain ⟨_, _, _, _, g, _⟩ := h1; exact ⟨_, _, g⟩
    obtain ⟨vs, t, g⟩ := hbx
    refine ⟨(KeepsOthers.of_grownBy hg3 (fun j o e ho => by cases e; rw [show W.heap[B0]? = _ from g] at ho; cases ho; rfl)).from _, ⟨(KeepS.refl _ _).grown hg3 (fun b hb => ⟨by have := hSb b hb; omega, fun e => by cases e; omega⟩), hg3.size⟩, hn3, h2.kept hg3 (fun e => by cases e; omega), (hg3.block _ h3.lt (fun e => by cases e; omega)).trans h3, below_grown h4 hg3 h4.size (by omega), Nat.le_trans h5 hg3.size⟩
  case done =>
    rintro D W hD ⟨h1, h2, h3, h4, h5⟩ _ hd
    obtain ⟨A2, n2, c2, l2, ⟨g0, g1⟩, hi2, hr2⟩ := h1.parts
    have hc2 := h2.cell
    obtain ⟨⟨q0, q1⟩, q2, q3⟩ := h3.facts2
    go_wp2
    have hb5 := (h3.set 0 (.bool (decide (iprod is n < 0)))).set 1 (.slice A2 n2 c2)
    have hM : Marks w.heap.size ((W.setCell ⟨w.heap.size, 0, none⟩ (.bool (decide (iprod is n < 0)))).setCell ⟨w.heap.size, 1, none⟩ (.slice A2 n2 c2)) [mark D] [D] := ((Marks.nil w.heap.size W).more (D := D) (by simp) (by have := hB1.size; omega) hd).others ((KeepsOthers.setCell _ _ _).trans (KeepsOthers.setCell _ _ _))
    obtain ⟨A3, n3, c3, l3, e3, hi3, hr3, hb3⟩ := ret2 h3 h4 (Nat.le_refl _) hi2 hr2
    cases e3
    refine leaves_marks _ (v := .agg #[.bool (decide (iprod is n < 0)), .slice A2 n2 c2]) (fun w' ho' => ?_) [D] _ _ hM (Oth.refl _ _) ?_
    · obtain ⟨⟨c0, c1⟩, _, _⟩ := (hb5.oth ho').facts2
      simp [results, Try.results24, go_sem, c0, c1]
    · intro w' ho
      exact ⟨A2, n2, c2, l3, rfl, hi3, hr3.oth ho, below_oth hb3 ho (Nat.le_refl _)⟩
end Go.Proofs.Wd
