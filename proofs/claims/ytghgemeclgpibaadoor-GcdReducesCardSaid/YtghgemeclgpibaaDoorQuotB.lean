/- The walk of quot.Div where the divisor has one limb at most. -/
import Derived.Test.YtghgemeclgpibaaDoorQuotA
import Derived.Test.YtghgemeclgpibaaDoorNatC
namespace Go.Proofs.Wd
open Go.RowKit Lb
attribute [local go_sem] Oper.semAt_some wide_fn wide_depth

theorem val_len1 {l : List Nat} (h : l.length = 1) : val l = lm l 0 := by
  unfold val
  rw [h]
  simp [sm]
theorem one_limb {l : List Nat} {v n : Nat} (hi : Is l v) (hl : l.length = n) (h0 : 0 < v) (h1 : v < BB) : n = 1 := by
  have e1 := hi.zero_iff
  have e2 := hi.len (k := 1) (by rwa [Nat.pow_one])
  omega

/-- What quot.Div returns. -/
def RetDiv (w : World) (a b : Nat) : Ending → World → Prop := fun e w' => ∃ A1 n1 c1 l1 A2 n2 c2 l2, e = .returned (.tuple #[.slice A1 n1 c1, .slice A2 n2 c2, .int .i64 0]) ∧ Is l1 (a / b) ∧ Rd w' A1 n1 c1 l1 ∧ Is l2 (a % b) ∧ Rd w' A2 n2 c2 l2 ∧ Below w.heap.size w w'

/-- quot.Div divides these two. -/
def QDiv (a b : Nat) : Prop := ∀ (A : Option Addr) (n c : Nat) (l : List Nat) (A' : Option Addr) (n' c' : Nat) (l' : List Nat) (w : World), Rd w A n c l → Lt l → Rd w A' n' c' l' → Lt l' → val l = a → val l' = b → n ≤ 1000 → n' ≤ 1000 →
  Calls Tryd.prog 53 #[.slice A n c, .slice A' n' c'] w (RetDiv w a b)

set_option maxRecDepth 100000 in
set_option maxHeartbeats 1000000 in
theorem qdiv_zero (A : Option Addr) (n c : Nat) (l : List Nat) (A' : Option Addr) (n' c' : Nat) (l' : List Nat) (w : World) (h : Rd w A n c l) (ht : Lt l) (h' : Rd w A' n' c' l') (ht' : Lt l') (hn : n ≤ 1000) (hn' : n' ≤ 1000) (hz : val l' = 0) :
    Calls Tryd.prog 53 #[.slice A n c, .slice A' n' c'] w fun e w' => e = .returned (.tuple #[.slice none 0 0, .slice none 0 0, .int .i64 30]) ∧ Below w.heap.size w w' := by
  refine calls_marks Tryd.func53 rfl ?_
  simp only [Tryd.ntmps53, List.size_toArray, List.length_cons, List.length_nil, Nat.reduceAdd, Nat.reduceSub, Array.replicate_succ, Array.replicate_zero, List.push_toArray, List.append_toArray, List.nil_append, List.cons_append]
  have hb0 := (Below.refl _ w).alloc (Nat.le_refl _) (.cells #[.slice none 0 0] 23)
  have hx0 := Boxed.new w 23 (.slice none 0 0)
  go_wp2_with (go_at_call 50; first | ((with_reducible refine (trim_any A n c l _ (h.below hb0) ht (by omega)).mono ?_); rintro e w2 ⟨A2, n2, c2, l2, rfl, hi2, hr2, hb2⟩; have hb3 := hb0.trans (hb2.mono hb0.size); have hx2 := (hb2.block _ hx0.lt).trans hx0) | ((with_reducible refine (trim_any A' n' c' l' _ (h'.below hb3) ht' (by omega)).mono ?_); rintro e w3 ⟨A3, n3, c3, l3, rfl, hi3, hr3, hb4⟩; have hb5 := hb3.trans (hb4.mono hb3.size); have hx3 : Boxed w3 w.heap.size 23 (.slice none 0 0) := (hb4.block _ (Boxed.lt hx2)).trans hx2; have hcx := hx3.cell; have hfx := hx3.frozen; obtain rfl : n3 = 0 := by rw [← hr3.len]; exact hi3.zero_iff.1 hz))
  have hx4 : Boxed (w3.setCell ⟨w.heap.size, 0, none⟩ (.slice none 0 0)) w.heap.size 23 (.slice none 0 0) := hx3.set _
  have hM := Marks.nil w.heap.size (w3.setCell ⟨w.heap.size, 0, none⟩ (.slice none 0 0))
  refine leaves_marks (B := w.heap.size) (w3.setCell ⟨w.heap.size, 0, none⟩ (.slice none 0 0)) (v := .tuple #[.slice none 0 0, .slice none 0 0, .int .i64 30]) (fun w' ho' => ?_) [] _ _ hM (Oth.refl _ _) ?_
  · have hc4 := (Boxed.oth hx4 ho').cell
    simp [results, go_sem, hc4]
  · intro w' ho
    exact ⟨rfl, below_oth (hb5.setCell (p := ⟨w.heap.size, 0, none⟩) (Nat.le_refl _) _) ho (Nat.le_refl _)⟩

set_option maxRecDepth 100000 in
set_option maxHeartbeats 1000000 in
theorem qdiv_less (A : Option Addr) (n c : Nat) (l : List Nat) (A' : Option Addr) (n' c' : Nat) (l' : List Nat) (w : World) (h : Rd w A n c l) (ht : Lt l) (h' : Rd w A' n' c' l') (ht' : Lt l') (hn : n ≤ 1000) (hn' : n' ≤ 1000) (hlt : val l < val l') :
    Calls Tryd.prog 53 #[.slice A n c, .slice A' n' c'] w (RetDiv w (val l) (val l')) := by
  have hcmp : decide (cmpOf (val l) (val l') < 0) = true := by
    unfold cmpOf
    rw [if_pos (by omega)]
    rfl
  refine calls_marks Tryd.func53 rfl ?_
  simp only [Tryd.ntmps53, List.size_toArray, List.length_cons, List.length_nil, Nat.reduceAdd, Nat.reduceSub, Array.replicate_succ, Array.replicate_zero, List.push_toArray, List.append_toArray, List.nil_append, List.cons_append]
  have hb0 := (Below.refl _ w).alloc (Nat.le_refl _) (.cells #[.slice none 0 0] 23)
  have hx0 := Boxed.new w 23 (.slice none 0 0)
  go_wp2_with (first | (go_at_call 50; first | ((with_reducible refine (trim_any A n c l _ (h.below hb0) ht (by omega)).mono ?_); rintro e w2 ⟨A2, n2, c2, l2, rfl, hi2, hr2, hb2⟩; have hb3 := hb0.trans (hb2.mono hb0.size); have hx2 := (hb2.block _ hx0.lt).trans hx0) | ((with_reducible refine (trim_any A' n' c' l' _ (h'.below hb3) ht' (by omega)).mono ?_); rintro e w3 ⟨A3, n3, c3, l3, rfl, hi3, hr3, hb4⟩; have hb5 := hb3.trans (hb4.mono hb3.size); have hx3 : Boxed w3 w.heap.size 23 (.slice none 0 0) := (hb4.block _ (Boxed.lt hx2)).trans hx2; have hcx := hx3.cell; have hfx := hx3.frozen; have hn3 : ¬ n3 = 0 := fun e => by have := hi3.zero_iff; rw [hr3.len, e] at this; omega)) | (go_at_call 82; refine (cmp_any A2 n2 c2 l2 A3 n3 c3 l3 _ (hr2.below hb4) hr3 hi2.lt hi3.lt).mono ?_; rw [hi2.val, hi3.val]; rintro e w4 ⟨rfl, rfl⟩))
  have hx4 : Boxed (w3.setCell ⟨w.heap.size, 0, none⟩ (.slice none 0 0)) w.heap.size 23 (.slice none 0 0) := hx3.set _
  have hM := Marks.nil w.heap.size (w3.setCell ⟨w.heap.size, 0, none⟩ (.slice none 0 0))
  refine leaves_marks (B := w.heap.size) (w3.setCell ⟨w.heap.size, 0, none⟩ (.slice none 0 0)) (v := .tuple #[.slice none 0 0, .slice A2 n2 c2, .int .i64 0]) (fun w' ho' => ?_) [] _ _ hM (Oth.refl _ _) ?_
  · have hc4 := (Boxed.oth hx4 ho').cell
    simp [results, go_sem, hc4]
  · intro w' ho
    have hr4 := (hr2.below hb4).setBox hx3 (fun _ => by simp) (.slice none 0 0)
    exact ⟨none, 0, 0, [], A2, n2, c2, l2, rfl, by rw [Nat.div_eq_of_lt hlt]; exact Is.nil, Rd.nil_ _, by rw [Nat.mod_eq_of_lt hlt]; exact hi2, hr4.oth ho, below_oth (hb5.setCell (p := ⟨w.heap.size, 0, none⟩) (Nat.le_refl _) _) ho (Nat.le_refl _)⟩

set_option maxRecDepth 100000 in
set_option maxHeartbeats 1000000 in
theorem qdiv_one (A : Option Addr) (n c : Nat) (l : List Nat) (A' : Option Addr) (n' c' : Nat) (l' : List Nat) (w : World) (h : Rd w A n c l) (ht : Lt l) (h' : Rd w A' n' c' l') (ht' : Lt l') (hn : n ≤ 1000) (hn' : n' ≤ 1000) (hge : val l' ≤ val l) (h0 : 0 < val l') (h1 : val l' < BB) :
    Calls Tryd.prog 53 #[.slice A n c, .slice A' n' c'] w (RetDiv w (val l) (val l')) := by
  have hcmp : decide (cmpOf (val l) (val l') < 0) = false := by
    unfold cmpOf
    rw [if_neg (by omega)]
    split <;> simp
  have hm1 : val l' < 4294967296 := h1
  refine calls_marks Tryd.func53 rfl ?_
  simp only [Tryd.ntmps53, List.size_toArray, List.length_cons, List.length_nil, Nat.reduceAdd, Nat.reduceSub, Array.replicate_succ, Array.replicate_zero, List.push_toArray, List.append_toArray, List.nil_append, List.cons_append]
  have hb0 := (Below.refl _ w).alloc (Nat.le_refl _) (.cells #[.slice none 0 0] 23)
  have hx0 := Boxed.new w 23 (.slice none 0 0)
  go_wp2_with (first | (go_at_call 50; first | ((with_reducible refine (trim_any A n c l _ (h.below hb0) ht (by omega)).mono ?_); rintro e w2 ⟨A2, n2, c2, l2, rfl, hi2, hr2, hb2⟩; have hb3 := hb0.trans (hb2.mono hb0.size); have hx2 := (hb2.block _ hx0.lt).trans hx0) | go_must ((with_reducible refine (trim_any A' n' c' l' _ (h'.below hb3) ht' (by omega)).mono ?_); rintro e w3 ⟨A3, n3, c3, l3, rfl, hi3, hr3, hb4⟩; have hb5 := hb3.trans (hb4.mono hb3.size); have hx3 : Boxed w3 w.heap.size 23 (.slice none 0 0) := (hb4.block _ (Boxed.lt hx2)).trans hx2; have hcx := hx3.cell; have hfx := hx3.frozen; obtain rfl : n3 = 1 := one_limb hi3 hr3.len h0 h1; have hr3' := hr3; obtain ⟨b3, o3, rfl, _, hcb⟩ := hr3.shape (by omega); have hle3 := hr3.le; have hcap3 := hr3.cap; have hcb0 := hcb 0 (by omega); have hlm : lm l3 0 = val l' := ((val_len1 hr3.len).symm.trans hi3.val); rw [hlm, Nat.add_zero] at hcb0; have hn2 : n2 ≤ 1000 := Nat.le_trans (Nat.le_of_eq hr2.len.symm) (Nat.le_trans (hi2.len (val_lt ht)) (by rw [h.len]; exact hn)))) | (go_at_call 82; refine (cmp_any A2 n2 c2 l2 _ 1 c3 l3 _ (hr2.below hb4) hr3 hi2.lt hi3.lt).mono ?_; rw [hi2.val, hi3.val]; rintro e w4 ⟨rfl, rfl⟩) | (go_at_call 83; refine (short_any A2 n2 c2 l2 (val l') _ (hr2.below hb4) hi2.lt h0 hm1 (by omega)).mono ?_; rw [hi2.val]; rintro e w5 ⟨A5, n5, c5, l5, rfl, hi5, hr5, hb6⟩; have hb7 := hb5.trans (hb6.mono hb5.size); have hmod : val l % val l' < 4294967296 := Nat.lt_trans (Nat.mod_lt _ h0) hm1) | (go_at_call 51; refine (of_any (val l % val l') (by omega) _).mono ?_; rintro e w6 ⟨A6, n6, c6, l6, rfl, hi6, hr6, hb8⟩; have hb9 := hb7.trans (hb8.mono hb7.size); have hx6 : Boxed w6 w.heap.size 23 (.slice none 0 0) := (hb8.block _ (Nat.lt_of_lt_of_le hx3.lt hb6.size)).trans ((hb6.block _ hx3.lt).trans hx3); have hcx6 := hx6.cell; have hfx6 := hx6.frozen))
  have hx7 : Boxed (w6.setCell ⟨w.heap.size, 0, none⟩ (.slice A5 n5 c5)) w.heap.size 23 (.slice A5 n5 c5) := hx6.set _
  refine leaves_marks (B := w.heap.size) (w6.setCell ⟨w.heap.size, 0, none⟩ (.slice A5 n5 c5)) (v := .tuple #[.slice A5 n5 c5, .slice A6 n6 c6, .int .i64 0]) (fun w' ho' => ?_) [] _ _ (Marks.nil _ _) (Oth.refl _ _) ?_
  · have hc4 := (Boxed.oth hx7 ho').cell
    simp [results, go_sem, hc4]
  · intro w' ho
    exact ⟨A5, n5, c5, l5, A6, n6, c6, l6, rfl, hi5, ((hr5.below hb8).setBox hx6 (fun _ => by simp) _).oth ho, hi6, (hr6.setBox hx6 (fun _ => by simp) _).oth ho, below_oth (hb9.setCell (p := ⟨w.heap.size, 0, none⟩) (Nat.le_refl _) _) ho (Nat.le_refl _)⟩

/-- One limb at most divides. -/
theorem qdiv_small (a b : Nat) (h0 : 0 < b) (h1 : b < BB) : QDiv a b := by
  intro A n c l A' n' c' l' w h ht h' ht' ha hb hn hn'
  subst ha
  subst hb
  by_cases hlt : val l < val l'
  · exact qdiv_less A n c l A' n' c' l' w h ht h' ht' hn hn' hlt
  · exact qdiv_one A n c l A' n' c' l' w h ht h' ht' hn hn' (by omega) h0 h1
end Go.Proofs.Wd
