/- An array of limbs of the call's own, known whole; slices.Backward. -/
import Derived.Test.YtghgemeclgpibaaDoorOrder
import Derived.Test.YtghgemeclgpibaaDoorRefB
import Derived.Deep.OwnRows
namespace Go.Proofs.Wd
open Go.RowKit Lb
attribute [local go_sem] Oper.semAt_some wide_fn wide_depth

/-- Block b is just the limbs l. -/
def Arr (W : World) (b : Nat) (l : List Nat) : Prop := W.heap[b]? = some (.cells (u32s l).toArray 49 (0, 0))

theorem Arr.lt {W : World} {b : Nat} {l : List Nat} (h : Arr W b l) : b < W.heap.size := (Array.getElem?_eq_some_iff.1 h).1
theorem Arr.cell {W : World} {b : Nat} {l : List Nat} (h : Arr W b l) {i : Nat} (hi : i < l.length) : W.cell? ⟨b, i, none⟩ = some (.int .u32 (lm l i)) := by
  unfold World.cell?
  rw [show W.heap[b]? = _ from h]
  simp only [Option.isSome_none, Bool.false_eq_true, if_false, List.getElem?_toArray]
  exact u32s_get l i hi
theorem Arr.frozen {W : World} {b : Nat} {l : List Nat} (h : Arr W b l) (i : Nat) : W.frozen? ⟨b, i, none⟩ = false := by
  unfold World.frozen?
  rw [show W.heap[b]? = _ from h]
  simp
theorem Arr.set {W : World} {b : Nat} {l : List Nat} (h : Arr W b l) (i x : Nat) : Arr (W.setCell ⟨b, i, none⟩ (.int .u32 (x : Int))) b (l.set i x) := by
  unfold Arr at h ⊢
  have e : (u32s (l.set i x)).toArray = (u32s l).toArray.setIfInBounds i (.int .u32 (x : Int)) := by
    simp [u32s, List.map_set]
  rw [e]
  obtain ⟨hlt, hk⟩ := Array.getElem?_eq_some_iff.1 h
  show (W.heap.modify b _)[b]? = _
  rw [Array.getElem?_eq_getElem (by rw [Array.size_modify]; exact hlt), Array.getElem_modify_self, hk]
  simp
theorem Arr.kept {W W' : World} {b : Nat} {l : List Nat} (h : Arr W b l) (hk : W'.heap[b]? = W.heap[b]?) : Arr W' b l := hk.trans h
theorem Arr.alloc {W : World} {b : Nat} {l : List Nat} (h : Arr W b l) (o : Obj) : Arr (W.alloc o) b l := h.kept (Below.heap_alloc W o b h.lt)
theorem Arr.far {W : World} {b : Nat} {l : List Nat} (h : Arr W b l) {p : Addr} (hp : b ≠ p.block) (u : Value) : Arr (W.setCell p u) b l := h.kept (Below.heap_setCell W p u b hp)
theorem Arr.rd {W : World} {b : Nat} {l : List Nat} (h : Arr W b l) {n : Nat} (hn : l.length = n) (hb : n ≤ 9223372036854775807) : Rd W (some ⟨b, 0, none⟩) n n l :=
  ⟨hn, Nat.le_refl _, hb, fun e => (by cases e), fun i hi => ⟨b, 0, rfl, by rw [Nat.zero_add]; exact h.cell (by omega)⟩⟩
theorem Arr.abide {W W' : World} {row : Option Nat} {b C : Nat} {l : List Nat} (h : Arr W b l) (hg : W.grownBy W' row) (hr : ∀ r, row = some r → C ≤ r ∧ ∃ o : Obj, W.heap[r]? = some o ∧ o.isCells = false) : Arr W' b l :=
  h.kept (hg.block b h.lt fun e => by
    obtain ⟨_, o, ho, hc⟩ := hr b e.symm
    rw [show W.heap[b]? = _ from h] at ho
    cases ho
    cases hc)
theorem made_zero (n : Nat) : madeCells #[.int .u32 0] n = (u32s (List.replicate n 0)).toArray := by
  apply Array.ext'
  simp [madeCells, u32s, Nat.mod_one, List.map_const']
theorem Arr.new (W : World) (n : Nat) : Arr (W.alloc (.cells (madeCells #[.int .u32 0] n) 49)) W.heap.size (List.replicate n 0) := by
  rw [made_zero]
  exact heap_alloc_new W _
theorem arr_at (W : World) (n : Nat) {b : Nat} (hb : b = W.heap.size) : Arr (W.alloc (.cells (madeCells #[.int .u32 0] n) 49)) b (List.replicate n 0) := by
  subst hb
  exact Arr.new W n
/-- make(api.Nat, n). -/
theorem run_make32 (n : Nat) (h : n ≤ 17592186044416) (w : World) :
    (Instr.makeSlice 23 (.int .i64 (n : Int)) (.int .i64 (n : Int))).run Tryd.prog w = .ok (.slice (some ⟨w.heap.size, 0, none⟩) n n) (w.alloc (.cells (madeCells #[.int .u32 0] n) 49)) :=
  run_make_row' 23 49 (.int .u32 0) 4 u32_under u32_info rfl .i64 .i64 n (by omega) (by omega) w

set_option maxRecDepth 100000 in
set_option maxHeartbeats 1000000 in
theorem backward1_iter (A : Option Addr) (n c : Nat) (l : List Nat) (b1 : Nat) (w0 : World) (h : Rd w0 A n c l)
    (hc1 : w0.cell? ⟨b1, 0, none⟩ = some (.slice A n c)) {S : Nat → Prop} (hS : ∀ b, S b → b < w0.heap.size) (hS1 : S b1) (hSA : ∀ b o, 0 < n → A = some ⟨b, o, none⟩ → S b) :
    Iter Tryd.prog 116 #[.pointer (some ⟨b1, 0, none⟩)] (fun k => #[.int .i64 (n - 1 - k : Nat), .int .u32 (lm l (n - 1 - k) : Nat)]) n (KeepS S) Mk (fun _ => True) w0 := by
  intro lp J W hW hJ hY h0
  have hle := h.le; have hcap := h.cap
  have hl1 := lt_of_cell hc1
  have hw1 := (hW.cell (p := ⟨b1, 0, none⟩) hl1).trans hc1
  refine calls_in Tryd.func116 rfl ?_
  simp only [Tryd.ntmps116, List.size_toArray, List.length_cons, List.length_nil, Nat.reduceAdd, Nat.reduceSub, Array.replicate_succ, Array.replicate_zero, List.push_toArray, List.append_toArray, List.nil_append, List.cons_append]
  gi_wp2
  gi_loopw [3] (fun i wr => ∃ j : Nat, j ≤ n ∧ i = .int .i64 ((j : Int) - 1) ∧ J (n - j) wr ∧ KeepS S w0 wr) (fun i _ => (intOf i + 1).toNat)
  case atStart => exact ⟨n, Nat.le_refl _, rfl, by rw [Nat.sub_self]; exact h0, KeepS.of_below hW hS⟩
  case round =>
    obtain ⟨j, hj, rfl, hJ1, hb⟩ := hrel
    by_cases hj0 : 0 < j
    · obtain ⟨b, o, rfl, hc⟩ := (h.keepS hb hSA).cells (j - 1) (by omega)
      have hr1 := (hb.cell (p := ⟨b1, 0, none⟩) hS1).trans hc1
      have e1 : ((j : Int) - 1).toNat = j - 1 := by omega
      obtain ⟨fn, tmps, assign, body, hy, hR⟩ := hY (n - j) wr (by omega) hJ1
      rw [show n - 1 - (n - j) = j - 1 from by omega, show ((j - 1 : Nat) : Int) = (j : Int) - 1 from by omega] at hy
      have hRn : n - j + 1 = n - (j - 1) := by omega
      rw [hRn] at hR
      clear hRn
      gi_wp2
      refine hR.mono ?_
      rintro e W3 ⟨rfl, hJ3, hk3⟩
      clear hy
      gi_wp2
      go_roundw
      case rel => exact ⟨j - 1, by omega, by congr 1; omega, hJ3, hb.trans hk3⟩
      case measure => simp [intOf]; omega
    · obtain rfl : j = 0 := by omega
      gi_wp2
      go_end0
      exact ⟨⟨_, rfl⟩, hJ1, trivial⟩

set_option maxHeartbeats 400000 in
theorem backward_any (A : Option Addr) (n c : Nat) (w : World) :
    Calls Tryd.prog 104 #[.slice A n c] w fun e w' => e = .returned (.func (.func 116) #[] #[.pointer (some ⟨w.heap.size, 0, none⟩)]) ∧
      w.alloc (.cells #[.slice A n c] 23) = w' := by
  go_enter Tryd.func104, Tryd.ntmps104
  go_wp2
  go_ret
  exact ⟨rfl, rfl⟩
end Go.Proofs.Wd
