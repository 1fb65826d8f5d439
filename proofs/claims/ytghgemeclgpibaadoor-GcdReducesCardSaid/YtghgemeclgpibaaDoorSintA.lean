/- Walks of package sint: norm, of, Norm, sign, Sign, Neg, Of. -/
import Derived.Test.YtghgemeclgpibaaDoorNatD
namespace Go.Proofs.Wd
open Go.RowKit Lb

/-- An integer by its sign and its limbs. -/
def iv (s : Bool) (l : List Nat) : Int := if s then -(val l : Int) else val l

/-- A block of cells, whole. -/
def BoxN (W : World) (B : Nat) (t : TypeId) (vs : Array Value) : Prop := W.heap[B]? = some (.cells vs t (0, 0))
theorem BoxN.lt {W : World} {B : Nat} {t : TypeId} {vs : Array Value} (h : BoxN W B t vs) : B < W.heap.size := (Array.getElem?_eq_some_iff.1 h).1
theorem BoxN.cell {W : World} {B : Nat} {t : TypeId} {vs : Array Value} (h : BoxN W B t vs) (i : Nat) : W.cell? ⟨B, i, none⟩ = vs[i]? := by simp [World.cell?, show W.heap[B]? = _ from h]
theorem BoxN.frozen {W : World} {B : Nat} {t : TypeId} {vs : Array Value} (h : BoxN W B t vs) (i : Nat) : W.frozen? ⟨B, i, none⟩ = false := by simp [World.frozen?, show W.heap[B]? = _ from h]
theorem BoxN.new (W : World) (t : TypeId) (vs : Array Value) : BoxN (W.alloc (.cells vs t)) W.heap.size t vs := World.alloc_heap_new W _
theorem BoxN.at_ (W : World) (t : TypeId) (vs : Array Value) {b : Nat} (hb : b = W.heap.size) : BoxN (W.alloc (.cells vs t)) b t vs := by
  subst hb
  exact BoxN.new W t vs
theorem BoxN.kept {W W' : World} {B : Nat} {t : TypeId} {vs : Array Value} (h : BoxN W B t vs) (hb : Below W.heap.size W W') : BoxN W' B t vs := (hb.block _ h.lt).trans h
theorem BoxN.alloc {W : World} {B : Nat} {t : TypeId} {vs : Array Value} (h : BoxN W B t vs) (o : Obj) : BoxN (W.alloc o) B t vs := h.kept ((Below.refl _ _).alloc (Nat.le_refl _) o)
theorem BoxN.drew {W : World} {B : Nat} {t : TypeId} {vs : Array Value} (h : BoxN W B t vs) : BoxN W.drew B t vs := h
theorem BoxN.other {W : World} {B : Nat} {t : TypeId} {vs : Array Value} (h : BoxN W B t vs) {p : Addr} (hp : B ≠ p.block) (v : Value) : BoxN (W.setCell p v) B t vs := (Below.heap_setCell W p v B hp).trans h
theorem BoxN.set {W : World} {B : Nat} {t : TypeId} {vs : Array Value} (h : BoxN W B t vs) (i : Nat) (v : Value) : BoxN (W.setCell ⟨B, i, none⟩ v) B t (vs.setIfInBounds i v) := by
  obtain ⟨hlt, hk⟩ := Array.getElem?_eq_some_iff.1 h
  show (W.heap.modify B _)[B]? = _
  rw [Array.getElem?_eq_getElem (by rw [Array.size_modify]; exact hlt), Array.getElem_modify_self, hk]
  rfl
theorem BoxN.oth {B : Nat} {w w' : World} {b : Nat} {t : TypeId} {vs : Array Value} (h : BoxN w b t vs) (ho : Oth B w w') : BoxN w' b t vs := by
  rcases ho.block b with e | ⟨_, ⟨o, h1, h2⟩, _⟩
  · exact e.trans h
  · rw [show w.heap[b]? = _ from h] at h1
    cases h1
    cases h2
theorem BoxN.putObj {W : World} {B D : Nat} {t : TypeId} {vs : Array Value} (h : BoxN W B t vs) {o : Obj} (o' : Obj) (hD : W.heap[D]? = some o) (ho : o.isCells = false) : BoxN (W.putObj D o') B t vs := by
  refine (World.putObj_heap_other ?_).trans h
  intro e
  subst e
  rw [show W.heap[B]? = _ from h] at hD
  cases hD
  cases ho

/-- A slice of limbs lies in no block whose cells are no limbs. -/
theorem Rd.setN {w : World} {A : Option Addr} {n c : Nat} {l : List Nat} (h : Rd w A n c l) {b : Nat} {t : TypeId} {vs : Array Value} (hb : BoxN w b t vs) {i : Nat} {u : Value} (hi : vs[i]? = some u) (hu : ∀ x, u ≠ .int .u32 x) (v : Value) : Rd (w.setCell ⟨b, i, none⟩ v) A n c l :=
  ⟨h.len, h.le, h.cap, h.nil, fun k hk => by
    obtain ⟨b', o, e, hc⟩ := h.cells k hk
    refine ⟨b', o, e, (World.cell?_setCell_other _ _ _ _ ?_).trans hc⟩
    intro he
    simp only [Addr.mk.injEq, and_true] at he
    obtain ⟨rfl, he2⟩ := he
    first | rw [← he2] at hc | rw [he2] at hc
    rw [hb.cell, hi] at hc
    exact hu _ (Option.some.inj hc)⟩

theorem iv_neg {s : Bool} {l : List Nat} : (s && !(val l == 0)) = decide (iv s l < 0) := by
  unfold iv
  cases s
  · simp only [Bool.false_and, Bool.false_eq_true, if_false]
    exact (decide_eq_false (by omega)).symm
  · simp only [Bool.true_and, if_true]
    by_cases h : val l = 0
    · simp [h]
    · rw [beq_eq_false_iff_ne.2 h]
      exact (decide_eq_true (by omega)).symm
theorem iv_abs (s : Bool) (l : List Nat) : (iv s l).natAbs = val l := by
  unfold iv
  cases s <;> simp

/-- The box of an integer that is reckoned with. -/
def NumAt (W : World) (B : Nat) (v : Int) : Prop := ∃ A n c l, BoxN W B 109 #[.bool (decide (v < 0)), .slice A n c] ∧ Is l v.natAbs ∧ Rd W A n c l
theorem NumAt.kept {W W' : World} {B : Nat} {v : Int} (h : NumAt W B v) (hb : Below W.heap.size W W') : NumAt W' B v := by
  obtain ⟨A, n, c, l, h1, h2, h3⟩ := h
  exact ⟨A, n, c, l, h1.kept hb, h2, h3.below hb⟩
theorem NumAt.oth {B0 : Nat} {W W' : World} {B : Nat} {v : Int} (h : NumAt W B v) (hb : Oth B0 W W') : NumAt W' B v := by
  obtain ⟨A, n, c, l, h1, h2, h3⟩ := h
  exact ⟨A, n, c, l, h1.oth hb, h2, h3.oth hb⟩
theorem NumAt.lt {W : World} {B : Nat} {v : Int} (h : NumAt W B v) : B < W.heap.size := by
  obtain ⟨A, n, c, l, h1, _⟩ := h
  exact h1.lt

/-- How a function returns an integer. -/
def RetInt (w : World) (v : Int) : Ending → World → Prop := fun e w' => ∃ A n c l, e = .returned (.agg #[.bool (decide (v < 0)), .slice A n c]) ∧ Is l v.natAbs ∧ Rd w' A n c l ∧ Below w.heap.size w w'

theorem below_none {w w' : World} (h : Below w.heap.size w w') : w.grownBy w' none := ⟨h.os, h.tape, h.output, h.size, fun k hk _ => h.block k hk⟩
theorem setCell_grown (w : World) (a : Addr) (u : Value) : w.grownBy (w.setCell a u) (some a.block) :=
  ⟨rfl, rfl, rfl, (KeepsWalks.setCell w _ u).size, fun k _ hk => Below.heap_setCell _ _ _ k (fun e => hk (by rw [e]))⟩
theorem below_grown {w1 w2 : World} {B : Nat} {b : Nat} {w : World} (h : Below B w w1) (hg : w1.grownBy w2 (some b)) (hB : B ≤ w1.heap.size) (hb : B ≤ b) : Below B w w2 := h.grown hg hB fun k hk => by cases hk; exact hb

set_option maxHeartbeats 400000 in
theorem norm_any (B : Nat) (s : Bool) (A : Option Addr) (n c : Nat) (l : List Nat) (w : World) (hb : BoxN w B 109 #[.bool s, .slice A n c]) (h : Rd w A n c l) (ht : Lt l) (hl : n ≤ 1099511627776) :
    Calls Tryd.prog 112 #[.pointer (some ⟨B, 0, none⟩)] w fun e w' => e = .returned (.pointer (some ⟨B, 0, none⟩)) ∧ NumAt w' B (iv s l) ∧ w.grownBy w' (some B) := by
  have g0 : w.cell? ⟨B, 0, none⟩ = some (.bool s) := hb.cell 0
  have g1 : w.cell? ⟨B, 1, none⟩ = some (.slice A n c) := hb.cell 1
  go_enter Tryd.func112, Tryd.ntmps112
  go_wp2_with (go_at_call 50; refine (trim_any _ _ _ _ _ h ht hl).mono ?_; rintro e w2 ⟨A2, n2, c2, l2, rfl, hi2, hr2, hb2⟩; have hbx := hb.kept hb2; have g2 := hbx.cell 0; have g3 := hbx.cell 1; have g4 := hbx.frozen 0; have g5 := hbx.frozen 1; simp only [List.getElem?_toArray, List.getElem?_cons_zero, List.getElem?_cons_succ] at g2 g3)
  all_goals
    go_ret
    have hle := hr2.len; have hz := hi2.zero_iff
    have fin : ∀ x : Bool, x = decide (iv s l < 0) → NumAt ((w2.setCell ⟨B, 1, none⟩ (.slice A2 n2 c2)).setCell ⟨B, 0, none⟩ (.bool x)) B (iv s l) ∧ w.grownBy ((w2.setCell ⟨B, 1, none⟩ (.slice A2 n2 c2)).setCell ⟨B, 0, none⟩ (.bool x)) (some B) := by
      rintro x rfl
      exact ⟨⟨A2, n2, c2, l2, (hbx.set 1 _).set 0 _, by rw [iv_abs]; exact hi2, (hr2.setN hbx (i := 1) rfl (fun _ => by simp) _).setN (hbx.set 1 _) (i := 0) rfl (fun _ => by simp) _⟩,
        ((below_none hb2).but (some B)).trans ((setCell_grown w2 ⟨B, 1, none⟩ (.slice A2 n2 c2)).trans (setCell_grown _ ⟨B, 0, none⟩ _))⟩
    refine ⟨rfl, fin _ ?_⟩
    rw [← iv_neg]
    simp_all
    try
      by_cases e : n2 = 0
      · rw [hz.2 e, e]; rfl
      · rw [decide_eq_true (by omega), beq_eq_false_iff_ne.2 (fun h => e (hz.1 h))]; rfl

set_option maxHeartbeats 400000 in
theorem sof_any (s : Bool) (A : Option Addr) (n c : Nat) (l : List Nat) (w : World) (h : Rd w A n c l) (ht : Lt l) (hl : n ≤ 1099511627776) :
    Calls Tryd.prog 95 #[.agg #[.bool s, .slice A n c]] w fun e w' => ∃ B, e = .returned (.pointer (some ⟨B, 0, none⟩)) ∧ w.heap.size ≤ B ∧ NumAt w' B (iv s l) ∧ Below w.heap.size w w' := by
  go_enter Tryd.func95, Tryd.ntmps95
  go_wp2_with (go_at_call 112; refine (norm_any _ s A n c l _ (BoxN.at_ _ _ _ (by simp)) ((h.alloc _).alloc _) ht hl).mono ?_; rintro e w1 ⟨rfl, hn, hg⟩)
  go_ret
  exact ⟨_, rfl, by simp, hn, below_grown (((Below.refl _ w).alloc (Nat.le_refl _) _).alloc (by simp) _) hg (by simp; omega) (by simp)⟩

theorem BoxN.facts2 {W : World} {B : Nat} {t : TypeId} {x y : Value} (h : BoxN W B t #[x, y]) : (W.cell? ⟨B, 0, none⟩ = some x ∧ W.cell? ⟨B, 1, none⟩ = some y) ∧ W.frozen? ⟨B, 0, none⟩ = false ∧ W.frozen? ⟨B, 1, none⟩ = false := ⟨⟨h.cell 0, h.cell 1⟩, h.frozen 0, h.frozen 1⟩
/-- The box of a result, behind a call. -/
theorem res2 {W W' : World} {t : TypeId} {x y : Value} {b : Nat} (hb : Below (W.alloc (.cells #[x, y] t)).heap.size (W.alloc (.cells #[x, y] t)) W') (e : b = W.heap.size) : BoxN W' b t #[x, y] := (BoxN.at_ W t #[x, y] e).kept hb
/-- What such a box holds, loaded whole. -/
theorem NumAt.parts {W : World} {B : Nat} {v : Int} (h : NumAt W B v) : ∃ A n c l, (W.cell? ⟨B, 0, none⟩ = some (.bool (decide (v < 0))) ∧ W.cell? ⟨B, 1, none⟩ = some (.slice A n c)) ∧ Is l v.natAbs ∧ Rd W A n c l := by
  obtain ⟨A, n, c, l, h1, h2, h3⟩ := h
  exact ⟨A, n, c, l, ⟨h1.cell 0, h1.cell 1⟩, h2, h3⟩

theorem ret2 {w w1 : World} {v : Int} {b : Nat} {t : TypeId} {x0 : Bool} {A0 : Option Addr} {n0 c0 : Nat} {A2 : Option Addr} {n2 c2 : Nat} {l2 : List Nat} (hq : BoxN w1 b t #[.bool x0, .slice A0 n0 c0]) (hb : Below w.heap.size w w1) (hB : w.heap.size ≤ b) (hi : Is l2 v.natAbs) (hr : Rd w1 A2 n2 c2 l2) :
    RetInt w v (.returned (.agg #[.bool (decide (v < 0)), .slice A2 n2 c2])) ((w1.setCell ⟨b, 0, none⟩ (.bool (decide (v < 0)))).setCell ⟨b, 1, none⟩ (.slice A2 n2 c2)) :=
  ⟨A2, n2, c2, l2, rfl, hi, (hr.setN hq (i := 0) rfl (fun _ => by simp) _).setN (hq.set 0 _) (i := 1) rfl (fun _ => by simp) _, (hb.setCell (p := ⟨b, 0, none⟩) hB _).setCell (p := ⟨b, 1, none⟩) hB _⟩

set_option maxHeartbeats 400000 in
theorem snorm_any (s : Bool) (A : Option Addr) (n c : Nat) (l : List Nat) (w : World) (h : Rd w A n c l) (ht : Lt l) (hl : n ≤ 1099511627776) :
    Calls Tryd.prog 76 #[.agg #[.bool s, .slice A n c]] w (RetInt w (iv s l)) := by
  go_enter Tryd.func76, Tryd.ntmps76
  go_wp2_with (go_at_call 95; refine (sof_any s A n c l _ ((h.alloc _).alloc _) ht hl).mono ?_; rintro e w1 ⟨B, rfl, hB, hn, hb⟩; obtain ⟨A2, n2, c2, l2, ⟨g0, g1⟩, hi2, hr2⟩ := hn.parts; have hq := res2 hb (b := w.heap.size + 1) (by simp); obtain ⟨⟨q0, q1⟩, q2, q3⟩ := hq.facts2)
  obtain ⟨⟨c0, c1⟩, _, _⟩ := ((hq.set 0 (.bool (decide (iv s l < 0)))).set 1 (.slice A2 n2 c2)).facts2
  refine bodyPost_ret (v := .agg #[.bool (decide (iv s l < 0)), .slice A2 n2 c2]) (by simp [results, Tryd.results76, go_sem, c0, c1]) rfl ?_
  exact ret2 hq ((((Below.refl _ w).alloc (Nat.le_refl _) _).alloc (by simp) _).trans (hb.mono (by simp; omega))) (by simp) hi2 hr2

theorem iv_not (s : Bool) (l : List Nat) : iv (!s) l = -iv s l := by
  unfold iv
  cases s <;> simp

set_option maxHeartbeats 400000 in
theorem sneg_any (s : Bool) (A : Option Addr) (n c : Nat) (l : List Nat) (w : World) (h : Rd w A n c l) (ht : Lt l) (hl : n ≤ 1099511627776) :
    Calls Tryd.prog 77 #[.agg #[.bool s, .slice A n c]] w (RetInt w (-iv s l)) := by
  go_enter Tryd.func77, Tryd.ntmps77
  go_wp2_with (go_at_call 76; refine (snorm_any (!s) A n c l _ ((h.alloc _).alloc _) ht hl).mono ?_; rintro e w1 ⟨A2, n2, c2, l2, rfl, hi2, hr2, hb⟩; have hq := res2 hb (b := w.heap.size + 1) (by simp); obtain ⟨⟨q0, q1⟩, q2, q3⟩ := hq.facts2)
  obtain ⟨⟨c0, c1⟩, _, _⟩ := ((hq.set 0 (.bool (decide (iv (!s) l < 0)))).set 1 (.slice A2 n2 c2)).facts2
  refine bodyPost_ret (v := .agg #[.bool (decide (iv (!s) l < 0)), .slice A2 n2 c2]) (by simp [results, Tryd.results77, go_sem, c0, c1]) rfl ?_
  rw [← iv_not]
  exact ret2 hq ((((Below.refl _ w).alloc (Nat.le_refl _) _).alloc (by simp) _).trans (hb.mono (by simp; omega))) (by simp) hi2 hr2

set_option maxHeartbeats 400000 in
theorem sign_any (B : Nat) (v : Int) (w : World) (h : NumAt w B v) :
    Calls Tryd.prog 102 #[.pointer (some ⟨B, 0, none⟩)] w fun e w' => e = .returned (.int .i64 v.sign) ∧ Below w.heap.size w w' := by
  obtain ⟨A2, n2, c2, l2, hb, hi2, hr2⟩ := h
  have g0 := fun o => (hb.alloc o).facts2.1.1
  have g1 := fun o => (hb.alloc o).facts2.1.2
  have hz := hi2.zero_iff
  have hlen := hr2.len
  rw [hlen] at hz
  rcases Int.lt_trichotomy v 0 with hv | rfl | hv
  · rw [decide_eq_true hv] at g0
    have hn : (1 : Int) ≤ n2 := by omega
    rw [Int.sign_eq_neg_one_of_neg hv]
    go_enter Tryd.func102, Tryd.ntmps102
    go_wp2
    all_goals
      first | done | (go_ret; exact ⟨rfl, (Below.refl _ w).alloc (Nat.le_refl _) _⟩)
  · obtain rfl : n2 = 0 := hz.1 rfl
    rw [decide_eq_false (by omega)] at g0
    go_enter Tryd.func102, Tryd.ntmps102
    go_wp2
    all_goals
      first | done | (go_ret; exact ⟨rfl, (Below.refl _ w).alloc (Nat.le_refl _) _⟩)
  · rw [decide_eq_false (by omega)] at g0
    rw [Int.sign_eq_one_of_pos hv]
    rcases (by omega : n2 = 1 ∨ 1 < n2) with rfl | hn
    all_goals
      go_enter Tryd.func102, Tryd.ntmps102
      go_wp2
      all_goals
        first | done | (go_ret; exact ⟨rfl, (Below.refl _ w).alloc (Nat.le_refl _) _⟩)

set_option maxHeartbeats 400000 in
theorem ssign_any (s : Bool) (A : Option Addr) (n c : Nat) (l : List Nat) (w : World) (h : Rd w A n c l) (ht : Lt l) (hl : n ≤ 1099511627776) :
    Calls Tryd.prog 74 #[.agg #[.bool s, .slice A n c]] w fun e w' => e = .returned (.int .i64 (iv s l).sign) ∧ Below w.heap.size w w' := by
  go_enter Tryd.func74, Tryd.ntmps74
  go_wp2_with (first | (go_at_call 95; refine (sof_any s A n c l _ (h.alloc _) ht hl).mono ?_; rintro e w1 ⟨B, rfl, hB, hn, hb⟩) | (go_at_call 102; refine (sign_any _ _ _ hn).mono ?_; rintro e w2 ⟨rfl, hb2⟩))
  go_ret
  have hb3 := ((Below.refl _ w).alloc (Nat.le_refl _) (.cells #[.bool s, .slice A n c] 41)).trans (hb.mono (by simp))
  exact ⟨rfl, hb3.trans (hb2.mono hb3.size)⟩

set_option maxHeartbeats 400000 in
theorem sof2_pos (k : Nat) (hk2 : k ≤ 9223372036854775807) (w : World) :
    Calls Tryd.prog 66 #[.int .i64 k] w (RetInt w k) := by
  have hk0 : (0 : Int) ≤ k := Int.natCast_nonneg k
  go_enter Tryd.func66, Tryd.ntmps66
  go_wp2_with (go_at_call 51; refine (of_any k (by omega) _).mono ?_; rintro e w1 ⟨A2, n2, c2, l2, rfl, hi2, hr2, hb⟩; have hq := res2 hb (b := w.heap.size) rfl; obtain ⟨⟨q0, q1⟩, q2, q3⟩ := hq.facts2)
  obtain ⟨⟨c0, c1⟩, _, _⟩ := ((hq.set 0 (.bool (decide ((k : Int) < 0)))).set 1 (.slice A2 n2 c2)).facts2
  rw [show (Value.bool false) = .bool (decide ((k : Int) < 0)) from by rw [decide_eq_false (by omega)]] at *
  refine bodyPost_ret (v := .agg #[.bool (decide ((k : Int) < 0)), .slice A2 n2 c2]) (by simp [results, Tryd.results66, go_sem, c0, c1]) rfl ?_
  exact ret2 hq (((Below.refl _ w).alloc (Nat.le_refl _) _).trans (hb.mono (by simp))) (by simp) hi2 hr2
set_option maxHeartbeats 400000 in
theorem sof2_neg (k : Nat) (hk0 : 0 < k) (hk2 : k ≤ 9223372036854775808) (w : World) :
    Calls Tryd.prog 66 #[.int .i64 (-(k : Int))] w (RetInt w (-(k : Int))) := by
  have hk1 : (-(k : Int)) < 0 := by omega
  have hww : IntKind.u64.wrap (-IntKind.u64.wrap (-(k : Int))) = (k : Int) := by
    simp only [IntKind.wrap, IntKind.bits, IntKind.signed]; simp; omega
  go_enter Tryd.func66, Tryd.ntmps66
  go_wp2_with (go_at_call 51; refine (of_any k (by omega) _).mono ?_; rintro e w1 ⟨A2, n2, c2, l2, rfl, hi2, hr2, hb⟩; have hq := res2 hb (b := w.heap.size) rfl; obtain ⟨⟨q0, q1⟩, q2, q3⟩ := hq.facts2)
  obtain ⟨⟨c0, c1⟩, _, _⟩ := ((hq.set 0 (.bool true)).set 1 (.slice A2 n2 c2)).facts2
  refine bodyPost_ret (v := .agg #[.bool true, .slice A2 n2 c2]) (by simp [results, Tryd.results66, go_sem, c0, c1]) rfl ?_
  have e1 : decide (-(k : Int) < 0) = true := decide_eq_true hk1
  have := ret2 (v := -(k : Int)) hq (((Below.refl _ w).alloc (Nat.le_refl _) _).trans (hb.mono (by simp))) (by simp) (by simpa using hi2) hr2
  rw [e1] at this
  exact this

theorem sof2_any (k : Int) (hk : -9223372036854775808 ≤ k) (hk2 : k ≤ 9223372036854775807) (w : World) :
    Calls Tryd.prog 66 #[.int .i64 k] w (RetInt w k) := by
  rcases (by omega : 0 ≤ k ∨ k < 0) with h | h
  · obtain ⟨m, rfl⟩ := Int.eq_ofNat_of_zero_le h
    exact sof2_pos m (by omega) w
  · obtain ⟨m, hm⟩ := Int.eq_ofNat_of_zero_le (show 0 ≤ -k by omega)
    obtain rfl : k = -(m : Int) := by omega
    exact sof2_neg m (by omega) (by omega) w
end Go.Proofs.Wd
