/- The walks of sint's Add, Sub, Cmp, Same. -/
import Derived.Test.YtghgemeclgpibaaDoorSintC
import Derived.Test.YtghgemeclgpibaaDoorSintD
namespace Go.Proofs.Wd
open Go.RowKit Lb
attribute [local go_sem] Oper.semAt_some wide_fn wide_depth

theorem num_add (B B' : Nat) (v v' : Int) (k : Nat) (w : World) (h : NumAt w B v) (h' : NumAt w B' v') (hne : B' ≠ B) (hv : v.natAbs < BB ^ k) (hv' : v'.natAbs < BB ^ k) (hk : k ≤ 1000000) :
    Calls Tryd.prog 114 #[.pointer (some ⟨B, 0, none⟩), .pointer (some ⟨B', 0, none⟩)] w fun e w' => (∃ u, e = .returned u) ∧ NumAt w' B (v + v') ∧ w.grownBy w' (some B) := by
  by_cases hs : decide (v < 0) = decide (v' < 0)
  · exact num_add_same B B' v v' k w h h' hne hv hv' hk hs
  · have hs' := beq_eq_false_iff_ne.2 hs
    by_cases hlt : v'.natAbs ≤ v.natAbs
    · exact num_add_ge B B' v v' k w h h' hne hv hv' hk hs' hlt
    · exact num_add_lt B B' v v' k w h h' hne hv hv' hk hs' (by omega)

theorem cell_abide {W W' : World} {row : Option Nat} {C : Nat} {p : Addr} {v : Value} (h : W.cell? p = some v) (hg : W.grownBy W' row) (hr : ∀ r, row = some r → C ≤ r ∧ ∃ o : Obj, W.heap[r]? = some o ∧ o.isCells = false) : W'.cell? p = some v := by
  refine (World.cell?_of_block (hg.block _ (lt_of_cell h) ?_)).trans h
  intro e
  obtain ⟨_, o, ho, hc⟩ := hr _ e.symm
  rw [cell_none ho hc] at h
  cases h
theorem Rd.abide {W W' : World} {row : Option Nat} {C : Nat} {A : Option Addr} {n c : Nat} {l : List Nat} (h : Rd W A n c l) (hg : W.grownBy W' row) (hr : ∀ r, row = some r → C ≤ r ∧ ∃ o : Obj, W.heap[r]? = some o ∧ o.isCells = false) : Rd W' A n c l :=
  ⟨h.len, h.le, h.cap, h.nil, fun i hi => by
    obtain ⟨b, o, e, hc⟩ := h.cells i hi
    exact ⟨b, o, e, cell_abide hc hg hr⟩⟩
theorem BoxN.abide {W W' : World} {row : Option Nat} {C B : Nat} {t : TypeId} {vs : Array Value} (h : BoxN W B t vs) (hg : W.grownBy W' row) (hr : ∀ r, row = some r → C ≤ r ∧ ∃ o : Obj, W.heap[r]? = some o ∧ o.isCells = false) : BoxN W' B t vs := by
  refine (hg.block B h.lt ?_).trans h
  intro e
  obtain ⟨_, o, ho, hc⟩ := hr B e.symm
  rw [show W.heap[B]? = _ from h] at ho
  cases ho
  cases hc
theorem NumAt.abide {W W' : World} {row : Option Nat} {C B : Nat} {v : Int} (h : NumAt W B v) (hg : W.grownBy W' row) (hr : ∀ r, row = some r → C ≤ r ∧ ∃ o : Obj, W.heap[r]? = some o ∧ o.isCells = false) : NumAt W' B v := by
  obtain ⟨A, n, c, l, h1, h2, h3⟩ := h
  exact ⟨A, n, c, l, h1.abide hg hr, h2, h3.abide hg hr⟩

/-- The sum of the first k. -/
def isum (is : List (Bool × List Nat)) : Nat → Int
  | 0 => 0
  | k + 1 => isum is k + ivAt is k

/-- The product of the first k. -/
def iprod (is : List (Bool × List Nat)) : Nat → Int
  | 0 => 1
  | k + 1 => iprod is k * ivAt is k

theorem isum_bound {is : List (Bool × List Nat)} {m : Nat} (h : ∀ k, (ivAt is k).natAbs < BB ^ m) : ∀ k, (isum is k).natAbs ≤ k * BB ^ m
  | 0 => by simp [isum]
  | k + 1 => by
    have h1 := isum_bound h k; have h2 := h k
    rw [Nat.add_mul, Nat.one_mul]
    show (isum is k + ivAt is k).natAbs ≤ _
    omega

/-- What the loop of Add keeps. -/
def SaddI (w : World) (B0 P : Nat) (is : List (Bool × List Nat)) (k : Nat) (W : World) : Prop :=
  NumAt W B0 (isum is k) ∧ Boxed W P 102 (.pointer (some ⟨B0, 0, none⟩)) ∧ BoxN W w.heap.size 41 #[.bool false, .slice none 0 0] ∧ Below w.heap.size w W ∧ P + 2 ≤ W.heap.size

theorem saddI_own (w : World) (B0 P : Nat) (is : List (Bool × List Nat)) {C : Nat} (hC : w.heap.size ≤ C) : OwnFrom C (SaddI w B0 P is) := by
  rintro k W W' row ⟨h1, h2, h3, h4, h5⟩ hg hr
  exact ⟨h1.abide hg hr, boxed_abide h2 hg hr, h3.abide hg hr, below_abide h4 hg (Nat.le_refl _) hC hr, Nat.le_trans h5 hg.size⟩

set_option maxRecDepth 100000 in
set_option maxHeartbeats 1000000 in
theorem sadd_any (A : Option Addr) (n c : Nat) (is : List (Bool × List Nat)) (m : Nat) (w : World) (h : IRd w A n is) (hn : n ≤ c) (hc : c ≤ 1000000) (hm : m ≤ 900000) (hv : ∀ k, (ivAt is k).natAbs < BB ^ m) :
    Calls Tryd.prog 99 #[.slice A n c] w (RetInt w (isum is n)) := by
  refine calls_marks Tryd.func99 rfl ?_
  simp only [Tryd.ntmps99, List.size_toArray, List.length_cons, List.length_nil, Nat.reduceAdd, Nat.reduceSub, Array.replicate_succ, Array.replicate_zero, List.push_toArray, List.append_toArray, List.nil_append, List.cons_append]
  go_wp2_with (first | (go_at_call 95; refine (sof_any false none 0 0 [] _ (Rd.nil_ _) Lt_nil (by omega)).mono ?_; rintro e w1 ⟨B0, rfl, hB0, hn0, hb0⟩) | (go_at_call 96; refine (all_any A n c _).mono ?_; rintro e w2 ⟨rfl, rfl⟩))
  have hiv0 : iv false [] = 0 := rfl
  rw [hiv0] at hn0
  obtain ⟨W0, hW0⟩ : ∃ W0, ((w1.alloc (.cells #[.pointer (some ⟨B0, 0, none⟩)] 102)).alloc (.cells #[.slice A n c] 101)) = W0 := ⟨_, rfl⟩
  have hsz : W0.heap.size = w1.heap.size + 2 := by rw [← hW0]; simp
  have hB0l := hn0.lt
  have hB0g : w.heap.size < B0 := Nat.lt_of_lt_of_le (by simp) hB0
  have hbw1 : Below w.heap.size w w1 := ((Below.refl _ w).alloc (Nat.le_refl _) _).trans (hb0.mono (by simp))
  have hB1 : Below w.heap.size w W0 := by rw [← hW0]; exact (hbw1.alloc hbw1.size _).alloc (by simp; exact Nat.le_succ_of_le hbw1.size) _
  have x0 : NumAt W0 B0 0 := by rw [← hW0]; exact hn0.kept (((Below.refl _ w1).alloc (Nat.le_refl _) _).alloc (by simp) _)
  have x1 : Boxed W0 w1.heap.size 102 (.pointer (some ⟨B0, 0, none⟩)) := by rw [← hW0]; exact (Boxed.new w1 _ _).alloc _
  have x2 : Boxed W0 (w1.heap.size + 1) 101 (.slice A n c) := by rw [← hW0]; exact boxed_at _ _ _ (by simp)
  have x3 : BoxN W0 w.heap.size 41 #[.bool false, .slice none 0 0] := by rw [← hW0]; exact ((res2 hb0 rfl).alloc _).alloc _
  rw [hW0]
  clear hW0
  have hSb : ∀ b, (b < w.heap.size ∨ b = w1.heap.size + 1) → b < W0.heap.size := fun b hb => by have := hbw1.size; omega
  refine wp_rangeE (gf := 113) rfl (enters_of Tryd.func113 (by kernel_rfl) rfl) (all1_iter A n c is (w1.heap.size + 1) w W0 h hB1 hn hc x2.cell (S := fun b => b < w.heap.size ∨ b = w1.heap.size + 1) hSb (.inr rfl) (fun b hb => .inl hb)) ?hE ?hps KeepZ.trans (keepZ_b hSb)
    (SaddI w B0 w1.heap.size is) (saddI_own w B0 _ is hB1.size) (abide_mk (saddI_own w B0 _ is (Nat.le_refl _))) Mk.keeps (fun _ _ _ _ _ _ _ _ => trivial) ⟨x0, x1, x3, hB1, Nat.le_of_eq hsz.symm⟩
    (fun xs => { tmps := #[.slice A n c, undef, .pointer (some ⟨w.heap.size, 0, none⟩), .pointer (some ⟨w1.heap.size, 0, none⟩), xs.getD 0 undef, .agg #[.bool false, .slice none 0 0], .pointer (some ⟨B0, 0, none⟩), .slice A n c, .func (.func 113) #[] #[.pointer (some ⟨w1.heap.size + 1, 0, none⟩)], xs.getD 0 undef, undef, undef, undef, undef, undef, undef, undef], defers := [] }) ?assign ?body ?done
  case hE =>
    rintro k xs W l o o' ⟨B, rfl, h1, h2⟩ ho hc
    exact ⟨B, rfl, h1, h2.abide (C := 0) (grownBy_putObj' W l o') (fun r e => by cases e; exact ⟨Nat.zero_le _, o, ho, hc⟩)⟩
  case hps =>
    rintro k xs W ⟨B, rfl, _⟩
    rfl
  case assign =>
    rintro lp k xs W K ⟨B, rfl, h1, h2⟩ hK
    gi_wp2
    exact hK
  case body =>
    rintro lp k xs W hk ⟨h1, h2, h3, h4, h5⟩ ⟨B, rfl, hB, hnb⟩
    have hc2 := h2.cell
    have hne : B ≠ B0 := by omega
    have hkm : k ≤ 1000000 := by omega
    have hbd : (isum is k).natAbs < BB ^ (m + 1) := by
      refine Nat.lt_of_le_of_lt (isum_bound hv k) ?_
      rw [Nat.pow_succ, Nat.mul_comm]
      exact Nat.mul_lt_mul_of_pos_left (by unfold BB; omega) (Nat.pow_pos (by unfold BB; omega))
    have hbd2 : (ivAt is k).natAbs < BB ^ (m + 1) := Nat.lt_of_lt_of_le (hv k) (Nat.pow_le_pow_right (by unfold BB; omega) (Nat.le_succ m))
    gi_wp2_with (gi_at_call 114; refine CallsIn.mono (callsIn_wide.2 (num_add B0 B _ _ (m + 1) W h1 hnb hne hbd hbd2 (by omega))) ?_; rintro e w3 ⟨⟨u, rfl⟩, hn3, hg3⟩)
    have hbx : ∃ vs t, BoxN W B0 t vs := by obtain ⟨_, _, _, _, g, _⟩ := h1; exact ⟨_, _, g⟩
    obtain ⟨vs, t, g⟩ := hbx
    refine ⟨(KeepsOthers.of_grownBy hg3 (fun j o e ho => by cases e; rw [show W.heap[B0]? = _ from g] at ho; cases ho; rfl)).from _, ⟨(KeepS.refl _ _).grown hg3 (fun b hb => ⟨by have := hSb b hb; omega, fun e => by cases e; omega⟩), hg3.size⟩, hn3, h2.kept hg3 (fun e => by cases e; omega), (hg3.block _ h3.lt (fun e => by cases e; omega)).trans h3, below_grown h4 hg3 h4.size (by omega), Nat.le_trans h5 hg3.size⟩
  case done =>
    rintro D W hD ⟨h1, h2, h3, h4, h5⟩ _ hd
    obtain ⟨A2, n2, c2, l2, ⟨g0, g1⟩, hi2, hr2⟩ := h1.parts
    have hc2 := h2.cell
    obtain ⟨⟨q0, q1⟩, q2, q3⟩ := h3.facts2
    go_wp2
    have hb5 := (h3.set 0 (.bool (decide (isum is n < 0)))).set 1 (.slice A2 n2 c2)
    have hM : Marks w.heap.size ((W.setCell ⟨w.heap.size, 0, none⟩ (.bool (decide (isum is n < 0)))).setCell ⟨w.heap.size, 1, none⟩ (.slice A2 n2 c2)) [mark D] [D] := ((Marks.nil w.heap.size W).more (D := D) (by simp) (by have := hB1.size; omega) hd).others ((KeepsOthers.setCell _ _ _).trans (KeepsOthers.setCell _ _ _))
    obtain ⟨A3, n3, c3, l3, e3, hi3, hr3, hb3⟩ := ret2 h3 h4 (Nat.le_refl _) hi2 hr2
    cases e3
    refine leaves_marks _ (v := .agg #[.bool (decide (isum is n < 0)), .slice A2 n2 c2]) (fun w' ho' => ?_) [D] _ _ hM (Oth.refl _ _) ?_
    · obtain ⟨⟨c0, c1⟩, _, _⟩ := (hb5.oth ho').facts2
      simp [results, Tryd.results99, go_sem, c0, c1]
    · intro w' ho
      exact ⟨A2, n2, c2, l3, rfl, hi3, hr3.oth ho, below_oth hb3 ho (Nat.le_refl _)⟩
end Go.Proofs.Wd
