/- A row of limbs in a block of its own that may be longer; a division on its way in memory. -/
import Derived.Test.YtghgemeclgpibaaDoorKnuthA
import Derived.Test.YtghgemeclgpibaaDoorSintB
import Derived.Test.YtghgemeclgpibaaDoorArr
namespace Go.Proofs.Wd
open Go.RowKit Lb

/-- Block R, of c cells, begins with the limbs l. -/
def Row (W : World) (R c : Nat) (l : List Nat) : Prop := ∃ cs : Array Value, W.heap[R]? = some (.cells cs 49 (0, 0)) ∧ cs.size = c ∧ l.length ≤ c ∧ c ≤ 9223372036854775807 ∧ cs.toList.take l.length = u32s l

theorem Row.lt {W : World} {R c : Nat} {l : List Nat} (h : Row W R c l) : R < W.heap.size := by
  obtain ⟨cs, h1, _⟩ := h
  exact (Array.getElem?_eq_some_iff.1 h1).1
theorem Row.kept {W W' : World} {R c : Nat} {l : List Nat} (h : Row W R c l) (hk : W'.heap[R]? = W.heap[R]?) : Row W' R c l := by
  obtain ⟨cs, h1, h2⟩ := h
  exact ⟨cs, hk.trans h1, h2⟩
theorem Row.get {l : List Nat} {cs : Array Value} (h : cs.toList.take l.length = u32s l) {i : Nat} (hi : i < l.length) : cs[i]? = some (.int .u32 (lm l i)) := by
  rw [← Array.getElem?_toList, ← List.getElem?_take_of_lt hi, h]
  exact u32s_get l i hi
theorem Row.cell {W : World} {R c : Nat} {l : List Nat} (h : Row W R c l) {i : Nat} (hi : i < l.length) : W.cell? ⟨R, i, none⟩ = some (.int .u32 (lm l i)) := by
  obtain ⟨cs, h1, h2, h3, h4, h5⟩ := h
  unfold World.cell?
  rw [h1]
  simp only [Option.isSome_none, Bool.false_eq_true, if_false]
  exact Row.get h5 hi
theorem Row.frozen {W : World} {R c : Nat} {l : List Nat} (h : Row W R c l) (i : Nat) : W.frozen? ⟨R, i, none⟩ = false := by
  obtain ⟨cs, h1, h2⟩ := h
  unfold World.frozen?
  rw [h1]
  simp
theorem Row.cap {W : World} {R c : Nat} {l : List Nat} (h : Row W R c l) : l.length ≤ c ∧ c ≤ 9223372036854775807 := by
  obtain ⟨cs, h1, h2, h3, h4, h5⟩ := h
  exact ⟨h3, h4⟩
theorem Row.set {W : World} {R c : Nat} {l : List Nat} (h : Row W R c l) (i x : Nat) : Row (W.setCell ⟨R, i, none⟩ (.int .u32 (x : Int))) R c (l.set i x) := by
  obtain ⟨cs, h1, h2, h3, h4, h5⟩ := h
  refine ⟨cs.setIfInBounds i (.int .u32 (x : Int)), ?_, by simpa using h2, by simpa using h3, h4, ?_⟩
  · obtain ⟨hlt, hk⟩ := Array.getElem?_eq_some_iff.1 h1
    show (W.heap.modify R _)[R]? = _
    rw [Array.getElem?_eq_getElem (by rw [Array.size_modify]; exact hlt), Array.getElem_modify_self, hk]
    simp
  · rw [List.length_set, Array.toList_setIfInBounds, List.take_set, h5]
    simp [u32s, List.map_set]
theorem Row.rd {W : World} {R c : Nat} {l : List Nat} (h : Row W R c l) : Rd W (some ⟨R, 0, none⟩) l.length c l :=
  ⟨rfl, h.cap.1, h.cap.2, fun e => (by cases e), fun i hi => ⟨R, 0, rfl, by rw [Nat.zero_add]; exact h.cell hi⟩⟩
theorem Row.of_own {w : World} {base : Nat} {A : Option Addr} {n c : Nat} {l : List Nat} (h : Own32 w base 49 (.slice A n c) l) (hl : 0 < l.length) : ∃ R, A = some ⟨R, 0, none⟩ ∧ n = l.length ∧ base ≤ R ∧ Row w R c l := by
  obtain ⟨h1, h2⟩ := h
  rcases h2 with ⟨hv, hn⟩ | ⟨g, cap, cur, hv, hg, hh, hnc, hcm, hcs, ht⟩
  · omega
  · injection hv with a1 a2 a3
    subst a1; subst a3
    exact ⟨g, rfl, a2, hg, cur, hh, by simpa using hcs, hnc, by unfold maxLen at hcm; omega, by simpa using ht⟩
theorem Row.of_arr {W : World} {R : Nat} {l : List Nat} (h : Arr W R l) (hl : l.length ≤ 9223372036854775807) : Row W R l.length l :=
  ⟨(u32s l).toArray, h, by simp [u32s], Nat.le_refl _, hl, by simp [u32s, List.take_of_length_le]⟩

/-- A window of limbs. -/
def win (l : List Nat) (at_ k : Nat) : Nat := sm (fun i => lm l (at_ + i)) k
theorem win_succ (l : List Nat) (at_ k : Nat) : win l at_ (k + 1) = win l at_ k + lm l (at_ + k) * BB ^ k := rfl
theorem win_zero (l : List Nat) (at_ : Nat) : win l at_ 0 = 0 := rfl
theorem win_lt {l : List Nat} (h : Lt l) (at_ k : Nat) : win l at_ k < BB ^ k := sm_lt fun _ _ => lm_BB h _
theorem win_drop {l : List Nat} {at_ : Nat} (k : Nat) : sm (lm (l.drop at_)) k = win l at_ k := sm_congr fun _ _ => lm_drop
theorem win_congr {l l' : List Nat} {at_ k : Nat} (h : ∀ i, i < k → lm l (at_ + i) = lm l' (at_ + i)) : win l at_ k = win l' at_ k := sm_congr h
theorem win_set {l : List Nat} {at_ k z : Nat} : win (l.set (at_ + k) z) at_ k = win l at_ k := by
  refine win_congr fun i hi => ?_
  by_cases h : at_ + k < l.length
  · rw [lm_set h, if_neg (by omega)]
  · rw [List.set_eq_of_length_le (by omega)]

/-- A division on its way. -/
structure LongAt (W : World) (D R rc : Nat) (lr : List Nat) (A : Option Addr) (n c : Nat) (lb : List Nat) : Prop where
  box : BoxN W D 95 #[.slice (some ⟨R, 0, none⟩) lr.length rc, .slice A n c]
  row : Row W R rc lr
  by_ : Rd W A n c lb
  ne : D ≠ R
  far : ∀ b o, 0 < n → A = some ⟨b, o, none⟩ → b ≠ R
theorem LongAt.grown {W W' : World} {D R rc : Nat} {lr lr' : List Nat} {A : Option Addr} {n c : Nat} {lb : List Nat} (h : LongAt W D R rc lr A n c lb) (hg : W.grownBy W' (some R)) (hr : Row W' R rc lr') (hl : lr'.length = lr.length) : LongAt W' D R rc lr' A n c lb := by
  refine ⟨?_, hr, ?_, h.ne, h.far⟩
  · rw [hl]
    exact (hg.block D h.box.lt (fun e => h.ne (by injection e))).trans h.box
  · refine ⟨h.by_.len, h.by_.le, h.by_.cap, h.by_.nil, fun i hi => ?_⟩
    obtain ⟨b, o, e, hc⟩ := h.by_.cells i hi
    exact ⟨b, o, e, (World.cell?_of_block (hg.block b (lt_of_cell hc) (fun e' => h.far b o (by omega) e (by injection e')))).trans hc⟩
end Go.Proofs.Wd
