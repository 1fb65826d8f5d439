/- The walk of quot.Short. -/
import Derived.Test.YtghgemeclgpibaaDoorArr
namespace Go.Proofs.Wd
open Go.RowKit Lb
attribute [local go_sem] Oper.semAt_some wide_fn wide_depth

/-- What the loop of Short keeps, s the heap's size at the call. -/
def ShortI (w : World) (l : List Nat) (m n : Nat) (k : Nat) (W : World) : Prop :=
  ∃ lq, ∃ o : Nat, Arr W (w.heap.size + 1 + 1) lq ∧ lq.length = n ∧ Lt lq ∧ Boxed W (w.heap.size + 1) 23 (.slice (some ⟨w.heap.size + 1 + 1, 0, none⟩) n n) ∧ Boxed W w.heap.size 49 (.int .u32 m) ∧
    Boxed W (w.heap.size + 1 + 1 + 1) 62 (.int .u64 o) ∧ o < m ∧ val (l.drop (n - k)) = m * val (lq.drop (n - k)) + o ∧ Below w.heap.size w W ∧ w.heap.size + 5 ≤ W.heap.size

theorem boxed_far {W : World} {b : Nat} {t : TypeId} {v : Value} (h : Boxed W b t v) {p : Addr} (hp : b ≠ p.block) (u : Value) : Boxed (W.setCell p u) b t v := (Below.heap_setCell W p u b hp).trans h
/-- A slice of limbs lies in no box of another kind. -/
theorem Rd.setBox {w : World} {A : Option Addr} {n c : Nat} {l : List Nat} (h : Rd w A n c l) {b : Nat} {t : TypeId} {u : Value} (hb : Boxed w b t u) (hu : ∀ x, u ≠ .int .u32 x) (v : Value) : Rd (w.setCell ⟨b, 0, none⟩ v) A n c l :=
  ⟨h.len, h.le, h.cap, h.nil, fun i hi => by
    obtain ⟨b', o, e, hc⟩ := h.cells i hi
    refine ⟨b', o, e, (World.cell?_setCell_other _ _ _ _ ?_).trans hc⟩
    intro he
    simp only [Addr.mk.injEq, and_true] at he
    obtain ⟨rfl, he2⟩ := he
    first | rw [← he2] at hc | rw [he2] at hc
    rw [Boxed.cell hb] at hc
    exact hu _ (Option.some.inj hc)⟩
theorem shortI_own (w : World) (l : List Nat) (m n : Nat) {C : Nat} (hC : w.heap.size ≤ C) : OwnFrom C (ShortI w l m n) := by
  rintro k W W' row ⟨lq, o, ha, hl, hlt, hq, hb, ho, hom, hv, hB, h5⟩ hg hr
  exact ⟨lq, o, ha.abide hg hr, hl, hlt, boxed_abide hq hg hr, boxed_abide hb hg hr, boxed_abide ho hg hr, hom, hv, below_abide hB hg (Nat.le_refl _) hC hr, Nat.le_trans h5 hg.size⟩

theorem short_step (o x m : Nat) (hm : 0 < m) (hm2 : m < 4294967296) (ho : o < m) (hx : x < 4294967296) :
    ∃ d q r : Nat, bits .or .u64 ((o : Int) * 4294967296) (x : Int) = (d : Int) ∧ d < 18446744073709551616 ∧ (d : Int) / (m : Int) = (q : Int) ∧ (d : Int) % (m : Int) = (r : Int) ∧ q < 4294967296 ∧ r < m ∧ o * 4294967296 + x = m * q + r := by
  have hd : o * 4294967296 + x < m * 4294967296 := by
    have : (o + 1) * 4294967296 ≤ m * 4294967296 := Nat.mul_le_mul_right _ ho
    omega
  refine ⟨o * 4294967296 + x, (o * 4294967296 + x) / m, (o * 4294967296 + x) % m, or_hi_lo o x (by omega) hx, by omega, by rw [Int.natCast_ediv], by rw [Int.natCast_emod], Nat.div_lt_of_lt_mul hd, Nat.mod_lt _ hm, (Nat.div_add_mod _ _).symm⟩

set_option maxRecDepth 100000 in
set_option maxHeartbeats 1000000 in
theorem short_any (A : Option Addr) (n c : Nat) (l : List Nat) (m : Nat) (w : World) (h : Rd w A n c l) (ht : Lt l) (hm : 0 < m) (hm2 : m < 4294967296) (hn : n ≤ 1099511627776) :
    Calls Tryd.prog 83 #[.slice A n c, .int .u32 m] w fun e w' => ∃ A1 n1 c1 l1, e = .returned (.tuple #[.slice A1 n1 c1, .int .u32 (val l % m : Nat), .int .i64 0]) ∧ Is l1 (val l / m) ∧ Rd w' A1 n1 c1 l1 ∧ Below w.heap.size w w' := by
  have hm0 : ((m : Int) == 0) = false := by simp only [beq_eq_false_iff_ne, ne_eq]; omega
  have hmk := fun wx => run_make32 n (by omega) wx
  refine calls_marks Tryd.func83 rfl ?_
  simp only [Tryd.ntmps83, List.size_toArray, List.length_cons, List.length_nil, Nat.reduceAdd, Nat.reduceSub, Array.replicate_succ, Array.replicate_zero, List.push_toArray, List.append_toArray, List.nil_append, List.cons_append]
  go_wp2_with (go_at_call 104; refine (backward_any A n c _).mono ?_; rintro e w1 ⟨rfl, rfl⟩)
  obtain ⟨W0, hW0⟩ : ∃ W0, (((((w.alloc (.cells #[.int .u32 m] 49)).alloc (.cells #[.slice (some ⟨w.heap.size + 1 + 1, 0, none⟩) n n] 23)).alloc (.cells (madeCells #[.int .u32 0] n) 49)).alloc (.cells #[.int .u64 0] 62)).alloc (.cells #[.slice A n c] 23)) = W0 := ⟨_, rfl⟩
  have hsz : W0.heap.size = w.heap.size + 5 := by rw [← hW0]; simp
  have hB0 : Below w.heap.size w W0 := by rw [← hW0]; exact (((((Below.refl _ w).alloc (Nat.le_refl _) _).alloc (by simp) _).alloc (by simp; omega) _).alloc (by simp; omega) _).alloc (by simp; omega) _
  have b0 : Boxed W0 w.heap.size 49 (.int .u32 m) := by rw [← hW0]; exact (((((boxed_at _ _ _ (by simp)).alloc _).alloc _).alloc _).alloc _)
  have b1 : Boxed W0 (w.heap.size + 1) 23 (.slice (some ⟨w.heap.size + 1 + 1, 0, none⟩) n n) := by rw [← hW0]; exact ((((boxed_at _ _ _ (by simp)).alloc _).alloc _).alloc _)
  have b2 : Arr W0 (w.heap.size + 1 + 1) (List.replicate n 0) := by rw [← hW0]; exact (((arr_at _ n (by simp)).alloc _).alloc _)
  have b3 : Boxed W0 (w.heap.size + 1 + 1 + 1) 62 (.int .u64 0) := by rw [← hW0]; exact ((boxed_at _ _ _ (by simp)).alloc _)
  have b4 : Boxed W0 (w.heap.size + 1 + 1 + 1 + 1) 23 (.slice A n c) := by rw [← hW0]; exact (boxed_at _ _ _ (by simp))
  rw [hW0]
  clear hW0
  have hSb : ∀ b, (b < w.heap.size ∨ b = w.heap.size + 1 + 1 + 1 + 1) → b < W0.heap.size := fun b hb => by omega
  refine wp_range (gf := 116) rfl (enters_of Tryd.func116 (by kernel_rfl) rfl) (backward1_iter A n c l (w.heap.size + 1 + 1 + 1 + 1) W0 (h.below hB0) b4.cell (S := fun b => b < w.heap.size ∨ b = w.heap.size + 1 + 1 + 1 + 1) hSb (.inr rfl) (fun b o hn e => .inl (h.in_ b o hn e))) (fun _ => rfl) KeepS.trans (keepS_b hSb)
    (ShortI w l m n) (shortI_own w l m n (by omega)) (abide_mk (shortI_own w l m n (Nat.le_refl _))) Mk.keeps (fun _ _ _ _ _ _ _ _ => trivial)
    ⟨List.replicate n 0, 0, b2, by simp, Lt_replicate n, b1, b0, b3, hm, by rw [Nat.sub_zero, List.drop_of_length_le (by rw [h.len]; omega), List.drop_of_length_le (by simp)]; rfl, hB0, by omega⟩
    (fun k => { tmps := #[.slice A n c, .int .u32 m, undef, .pointer (some ⟨w.heap.size, 0, none⟩), .pointer (some ⟨w.heap.size + 1, 0, none⟩), .int .u32 0, .int .i64 0, .pointer (some ⟨w.heap.size + 1 + 1 + 1, 0, none⟩), .int .i64 (n - 1 - k : Nat), .int .u32 (lm l (n - 1 - k) : Nat), .int .u32 m, .bool false, .slice A n c, .int .i64 n, .slice (some ⟨w.heap.size + 1 + 1, 0, none⟩) n n, .slice A n c, .func (.func 116) #[] #[.pointer (some ⟨w.heap.size + 1 + 1 + 1 + 1, 0, none⟩)], .int .i64 (n - 1 - k : Nat), .int .u32 (lm l (n - 1 - k) : Nat), undef, undef, undef, undef, undef, undef, undef, undef, undef, undef, undef, undef, undef, undef, undef, undef, undef, undef, undef, undef, undef], defers := [] }) ?_ ?_ ?_
  · intro lp k W K hK
    gi_wp2
    exact hK
  · rintro lp k W hk ⟨lq, o, ha, hlq, hltq, hq, hb, ho, hom, hv, hB, h5⟩
    obtain ⟨j, hj, hjn⟩ : ∃ j, n - 1 - k = j ∧ j < n ∧ n - k = j + 1 ∧ n - (k + 1) = j := ⟨n - 1 - k, rfl, by omega, by omega, by omega⟩
    rw [hj]
    clear hj
    have hcq := hq.cell; have hfq := hq.frozen; have hcb := hb.cell; have hco := ho.cell; have hfo := ho.frozen
    have x1 := lm_BB ht j
    simp only [BB] at x1
    have hcj := ha.cell (i := j) (by omega)
    have hfj := ha.frozen j
    have hmix : Tryd.prog.follows .mixedOrders = true := by kernel_rfl
    have ho32 : o < 4294967296 := by omega
    obtain ⟨d, q, r, hd, hd1, hdq, hdr, hq32, hrm, hstep⟩ := short_step o (lm l j) m hm hm2 hom x1
    have HS := hid (And.intro hstep hjn)
    have hj0 : j < n := hjn.1
    clear hstep hjn
    gi_wp2
    obtain ⟨W9, hW9⟩ : ∃ W9, W.setCell ⟨w.heap.size + 1 + 1 + 1, 0, none⟩ (.int .u64 (d : Int)) = W9 := ⟨_, rfl⟩
    have ho9 : Boxed W9 (w.heap.size + 1 + 1 + 1) 62 (.int .u64 d) := by rw [← hW9]; exact ho.set _
    have hq9 : Boxed W9 (w.heap.size + 1) 23 (.slice (some ⟨w.heap.size + 1 + 1, 0, none⟩) n n) := by rw [← hW9]; exact hq.other (by omega) _
    have hb9 : Boxed W9 w.heap.size 49 (.int .u32 m) := by rw [← hW9]; exact hb.other (by omega) _
    have ha9 : Arr W9 (w.heap.size + 1 + 1) lq := by rw [← hW9]; exact ha.far (by simp) _
    have hk9 : KeepsOthers W W9 := by rw [← hW9]; exact KeepsOthers.setCell _ _ _
    have hB9 : Below w.heap.size W W9 := by rw [← hW9]; exact (Below.refl _ _).setCell (p := ⟨w.heap.size + 1 + 1 + 1, 0, none⟩) (by simp; omega) _
    have hS9 : KeepS (fun b => b < w.heap.size ∨ b = w.heap.size + 1 + 1 + 1 + 1) W W9 := by rw [← hW9]; exact (KeepS.refl _ _).setCell (p := ⟨w.heap.size + 1 + 1 + 1, 0, none⟩) (by simp; omega) _
    rw [hW9]
    clear hW9 hcq hfq hcb hco hfo hcj hfj
    refine wpIn_region_C 13 (fun W => W.cell? ⟨w.heap.size + 1, 0, none⟩ = some (.slice (some ⟨w.heap.size + 1 + 1, 0, none⟩) n n) ∧ W.cell? ⟨w.heap.size + 1 + 1 + 1, 0, none⟩ = some (.int .u64 d) ∧ W.cell? ⟨w.heap.size, 0, none⟩ = some (.int .u32 m)) hmix ?_
    have d1 : W9.drew.cell? ⟨w.heap.size + 1, 0, none⟩ = some (.slice (some ⟨w.heap.size + 1 + 1, 0, none⟩) n n) := hq9.cell
    have d2 : W9.drew.cell? ⟨w.heap.size + 1 + 1 + 1, 0, none⟩ = some (.int .u64 d) := ho9.cell
    have d3 : W9.drew.cell? ⟨w.heap.size, 0, none⟩ = some (.int .u32 m) := hb9.cell
    have z1 : W9.drew.cell? ⟨w.heap.size + 1 + 1, j, none⟩ = some (.int .u32 (lm lq j)) := ha9.cell (by omega)
    have z2 : W9.drew.frozen? ⟨w.heap.size + 1 + 1, j, none⟩ = false := ha9.frozen j
    have g1 := IntWalk.u64_in (m : Int) (by omega)
    have g2 := IntWalk.u64_in (q : Int) (by omega)
    have g3 := IntWalk.u32_in (q : Int) (by omega)
    have g4 : ¬ (m : Int) = 0 := by omega
    have g6 : ¬ m = 0 := by omega
    have g5 : (q : Int) % 4294967296 = (q : Int) := by omega
    have e2 := ho9.cell; have e3 := ho9.frozen
    have g7 : (d : Int).tmod (m : Int) = (r : Int) := by rw [Int.tmod_eq_emod_of_nonneg (Int.natCast_nonneg d)]; exact hdr
    have z3 : W9.drew.frozen? ⟨w.heap.size + 1 + 1 + 1, 0, none⟩ = false := ho9.frozen
    refine takeC (i := 0) (v := ?vv1) (by kernel_rfl) (by kernel_rfl) rfl (by kernel_rfl) (by kernel_rfl) (by kernel_rfl) (fun _ _ _ h => h) ⟨d1, d2, d3⟩ ⟨.inl ⟨rfl, ?yy1⟩, fun _ => rfl⟩ ?_
    case yy1 =>
      rintro wx ⟨q1, q2, q3⟩
      go_simp
      first | done | rfl
    refine takeC (i := 1) (v := ?vv2) (by kernel_rfl) (by kernel_rfl) rfl (by kernel_rfl) (by kernel_rfl) (by kernel_rfl) (fun _ _ _ h => h) ⟨d1, d2, d3⟩ ⟨.inl ⟨rfl, ?yy2⟩, fun _ => rfl⟩ ?_
    case yy2 =>
      rintro wx ⟨q1, q2, q3⟩
      go_simp
      first | done | rfl
    refine takeC (i := 2) (v := ?vv3) (by kernel_rfl) (by kernel_rfl) rfl (by kernel_rfl) (by kernel_rfl) (by kernel_rfl) (fun _ _ _ h => h) ⟨d1, d2, d3⟩ ⟨.inl ⟨rfl, ?yy3⟩, fun _ => rfl⟩ ?_
    case yy3 =>
      rintro wx ⟨q1, q2, q3⟩
      go_simp
      first | done | rfl
    refine takeC (i := 3) (v := ?vv4) (by kernel_rfl) (by kernel_rfl) rfl (by kernel_rfl) (by kernel_rfl) (by kernel_rfl) (fun _ _ _ h => h) ⟨d1, d2, d3⟩ ⟨.inl ⟨rfl, ?yy4⟩, fun _ => rfl⟩ ?_
    case yy4 =>
      rintro wx ⟨q1, q2, q3⟩
      go_simp
      first | done | rfl
    refine takeC (i := 4) (v := ?vv5) (by kernel_rfl) (by kernel_rfl) rfl (by kernel_rfl) (by kernel_rfl) (by kernel_rfl) (fun _ _ _ h => h) ⟨d1, d2, d3⟩ ⟨.inl ⟨rfl, ?yy5⟩, fun _ => rfl⟩ ?_
    case yy5 =>
      rintro wx ⟨q1, q2, q3⟩
      go_simp
      first | done | rfl
    refine takeC (i := 5) (v := ?vv6) (by kernel_rfl) (by kernel_rfl) rfl (by kernel_rfl) (by kernel_rfl) (by kernel_rfl) (fun _ _ _ h => h) ⟨d1, d2, d3⟩ ⟨.inl ⟨rfl, ?yy6⟩, fun _ => rfl⟩ ?_
    case yy6 =>
      rintro wx ⟨q1, q2, q3⟩
      go_simp
      first | done | rfl
    refine takeC (i := 6) (v := ?vv7) (by kernel_rfl) (by kernel_rfl) rfl (by kernel_rfl) (by kernel_rfl) (by kernel_rfl) (fun _ _ _ h => h) ⟨d1, d2, d3⟩ ⟨.inl ⟨rfl, ?yy7⟩, fun _ => rfl⟩ ?_
    case yy7 =>
      rintro wx ⟨q1, q2, q3⟩
      go_simp
      first | done | rfl
    refine takeC (i := 7) (v := ?vv8) (by kernel_rfl) (by kernel_rfl) rfl (by kernel_rfl) (by kernel_rfl) (by kernel_rfl) (fun _ _ _ h => h) ⟨d1, d2, d3⟩ ⟨.inl ⟨rfl, ?yy8⟩, fun _ => rfl⟩ ?_
    case yy8 =>
      rintro wx ⟨q1, q2, q3⟩
      go_simp
      first | done | rfl
    refine takeC (i := 8) (v := ?vv9) (by kernel_rfl) (by kernel_rfl) rfl (by kernel_rfl) (by kernel_rfl) (by kernel_rfl) (fun _ _ _ h => h) ⟨d1, d2, d3⟩ ⟨.inl ⟨rfl, ?yy9⟩, fun _ => rfl⟩ ?_
    case yy9 =>
      rintro wx ⟨q1, q2, q3⟩
      go_simp
      first | done | rfl
    refine takeC (i := 9) (v := ?vv10) (by kernel_rfl) (by kernel_rfl) rfl (by kernel_rfl) (by kernel_rfl) (by kernel_rfl) (fun _ _ _ h => h) ⟨d1, d2, d3⟩ ⟨.inl ⟨rfl, ?yy10⟩, fun _ => rfl⟩ ?_
    case yy10 =>
      rintro wx ⟨q1, q2, q3⟩
      go_simp
      first | done | rfl
    refine takeC (i := 10) (v := ?vv11) (by kernel_rfl) (by kernel_rfl) rfl (by kernel_rfl) (by kernel_rfl) (by kernel_rfl) (fun _ _ _ h => h) ⟨d1, d2, d3⟩ ⟨.inl ⟨rfl, ?yy11⟩, fun _ => rfl⟩ ?_
    case yy11 =>
      rintro wx ⟨q1, q2, q3⟩
      go_simp
      first | done | rfl
    refine takeC (i := 11) (v := ?vv12) (by kernel_rfl) (by kernel_rfl) rfl (by kernel_rfl) (by kernel_rfl) (by kernel_rfl) (fun _ _ _ h => h) ⟨d1, d2, d3⟩ ⟨.inl ⟨rfl, ?yy12⟩, fun _ => rfl⟩ ?_
    case yy12 =>
      rintro wx ⟨q1, q2, q3⟩
      go_simp
      first | done | rfl
    refine oneC (i := 12) (by kernel_rfl) rfl (fun K hK => ?_)
    go_simp
    refine hK _ _ (.inr ?_) ?_
    · exact ⟨(World.cell?_setCell_other _ _ _ _ (by simp)).trans d1, (World.cell?_setCell_other _ _ _ _ (by simp)).trans d2, (World.cell?_setCell_other _ _ _ _ (by simp)).trans d3⟩
    clear hK K
    refine oneC (i := 13) (by kernel_rfl) rfl (fun K hK => ?_)
    go_simp
    refine hK _ _ (.inl rfl) ?_
    clear hK K
    refine doneP (by kernel_rfl) ?_
    clear g1 g2 g3 g4 g5 g6 g7
    gi_wp2
    have hno : w.heap.size + 1 + 1 ≠ w.heap.size + 1 + 1 + 1 := by omega
    have haF := (ha9.set j q).far (p := ⟨w.heap.size + 1 + 1 + 1, 0, none⟩) hno (.int .u64 r)
    have hqF := (hq9.other (B' := w.heap.size + 1 + 1) (by omega) (.int .u32 q))
    have hkF : KeepsOthers W (((W9.setCell ⟨w.heap.size + 1 + 1, j, none⟩ (.int .u32 (q : Int))).setCell ⟨w.heap.size + 1 + 1 + 1, 0, none⟩ (.int .u64 (r : Int))).drew) := (hk9.trans (KeepsOthers.setCell _ _ _)).trans ((KeepsOthers.setCell _ _ _).trans (KeepsOthers.drew _))
    refine ⟨hkF.from _, (((hS9.setCell (p := ⟨w.heap.size + 1 + 1, j, none⟩) (by simp; omega) _).setCell (p := ⟨w.heap.size + 1 + 1 + 1, 0, none⟩) (by simp; omega) _).drew), lq.set j q, r, haF, by rw [List.length_set]; exact hlq, Lt_set hltq hq32, ?_, ?_, ?_, hrm, ?_, (((hB.trans hB9).setCell (p := ⟨w.heap.size + 1 + 1, j, none⟩) (by simp; omega) _).setCell (p := ⟨w.heap.size + 1 + 1 + 1, 0, none⟩) (by simp; omega) _).drew, Nat.le_trans h5 hkF.size⟩
    · exact boxed_far (boxed_far hq9 (p := ⟨w.heap.size + 1 + 1, j, none⟩) (by simp) _) (p := ⟨w.heap.size + 1 + 1 + 1, 0, none⟩) (by simp) _
    · exact boxed_far (boxed_far hb9 (p := ⟨w.heap.size + 1 + 1, j, none⟩) (by simp; omega) _) (p := ⟨w.heap.size + 1 + 1 + 1, 0, none⟩) (by simp; omega) _
    · exact (boxed_far ho9 (p := ⟨w.heap.size + 1 + 1, j, none⟩) (by simp) _).set _
    · obtain ⟨hst, _, e1, e2⟩ := HS.out
      rw [e2]
      rw [e1] at hv
      have v1 := val_drop (l := l) (k := j) (by rw [h.len]; omega)
      have v2 := val_drop (l := lq.set j q) (k := j) (by rw [List.length_set]; omega)
      have hds : (lq.set j q).drop (j + 1) = lq.drop (j + 1) := List.drop_set_of_lt (by omega)
      rw [lm_set (by omega), if_pos rfl, hds] at v2
      rw [v1, v2, hv, Nat.mul_add, Nat.mul_add, Nat.mul_left_comm m BB]
      simp only [BB]
      omega
  · rintro D W hD ⟨lq, o, ha, hlq, hltq, hq, hb, ho, hom, hv, hB, h5⟩ _ hd
    have hmix : Tryd.prog.follows .mixedOrders = true := by kernel_rfl
    go_wp2_with fail
    refine (wpIn_wide (n := 0)).1 ?_
    refine wpIn_region_C 100 (fun W => W.cell? ⟨w.heap.size + 1 + 1 + 1, 0, none⟩ = some (.int .u64 o)) hmix ?_
    have d1 : W.drew.cell? ⟨w.heap.size + 1 + 1 + 1, 0, none⟩ = some (.int .u64 o) := ho.cell
    have hcq := hq.cell; have hfq := hq.frozen
    have g1 : (o : Int) % 4294967296 = (o : Int) := by omega
    have g2 := IntWalk.u32_in (o : Int) (by omega)
    refine takeC (i := 2) (v := ?vv13) (by kernel_rfl) (by kernel_rfl) rfl (by kernel_rfl) (by kernel_rfl) (by kernel_rfl) (fun _ _ _ h => h) d1 ⟨.inl ⟨rfl, ?yy13⟩, fun _ => rfl⟩ ?_
    case yy13 =>
      rintro wx q1
      go_simp
      first | done | rfl
    refine takeC (i := 3) (v := ?vv14) (by kernel_rfl) (by kernel_rfl) rfl (by kernel_rfl) (by kernel_rfl) (by kernel_rfl) (fun _ _ _ h => h) d1 ⟨.inl ⟨rfl, ?yy14⟩, fun _ => rfl⟩ ?_
    case yy14 =>
      rintro wx q1
      go_simp
      first | done | rfl
    refine oneC (i := 0) (by kernel_rfl) rfl (fun K hK => ?_)
    go_simp
    refine hK _ _ (.inr d1) ?_
    clear hK K
    refine oneC (i := 1) (by kernel_rfl) rfl (fun K hK => ?_)
    go_simp
    have hrA := (ha.rd hlq (by omega)).drew
    refine CallsIn.mono (callsIn_wide.2 (trim_any _ n n lq W.drew hrA hltq hn)) ?_
    rintro e w2 ⟨A2, n2, c2, l2, rfl, hi2, hr2, hb2⟩
    have hq2 : Boxed w2 (w.heap.size + 1) 23 (.slice (some ⟨w.heap.size + 1 + 1, 0, none⟩) n n) := (hb2.block _ hq.lt).trans hq
    have ho2 : Boxed w2 (w.heap.size + 1 + 1 + 1) 62 (.int .u64 o) := (hb2.block _ ho.lt).trans ho
    have hc2 := hq2.cell; have hf2 := hq2.frozen
    refine hK _ _ (.inr ho2.cell) ?_
    clear hK K
    refine oneC (i := 4) (by kernel_rfl) rfl (fun K hK => ?_)
    go_simp
    refine hK _ _ (.inr ((ho2.other (by omega) _).cell)) ?_
    clear hK K
    refine oneC (i := 5) (by kernel_rfl) rfl (fun K hK => ?_)
    go_simp
    refine hK _ _ (.inr ((ho2.other (by omega) _).cell)) ?_
    clear hK K
    refine oneC (i := 6) (by kernel_rfl) rfl (fun K hK => ?_)
    go_simp
    refine hK _ _ (.inr ((ho2.other (by omega) _).cell)) ?_
    clear hK K
    refine doneP (by kernel_rfl) ?_
    go_wp2
    have hw3 : Boxed (w2.setCell ⟨w.heap.size + 1, 0, none⟩ (.slice A2 n2 c2)) (w.heap.size + 1) 23 (.slice A2 n2 c2) := hq2.set _
    have hM : Marks (w.heap.size) (w2.setCell ⟨w.heap.size + 1, 0, none⟩ (.slice A2 n2 c2)) [mark D] [D] := (((Marks.nil w.heap.size W).more (D := D) (by simp) (by omega) hd).made ((Below.refl _ W).drew.trans hb2)).others (KeepsOthers.setCell _ _ _)
    have hb3 : Below w.heap.size w (w2.setCell ⟨w.heap.size + 1, 0, none⟩ (.slice A2 n2 c2)) := (hB.trans (((Below.refl _ W).drew.trans hb2).mono hB.size)).setCell (p := ⟨w.heap.size + 1, 0, none⟩) (by simp) _
    have hr3 : Rd (w2.setCell ⟨w.heap.size + 1, 0, none⟩ (.slice A2 n2 c2)) A2 n2 c2 l2 := hr2.setBox hq2 (fun _ => by simp) _
    have h6 : val l = m * val lq + o := by
      rw [Nat.sub_self, List.drop_zero, List.drop_zero] at hv
      exact hv
    have h7 : val l / m = val lq := by rw [h6, Nat.mul_add_div hm, Nat.div_eq_of_lt hom]; rfl
    have h8 : val l % m = o := by rw [h6, Nat.mul_add_mod, Nat.mod_eq_of_lt hom]
    rw [← h7] at hi2
    refine leaves_marks _ (v := .tuple #[.slice A2 n2 c2, .int .u32 o, .int .i64 0]) (fun w' ho' => ?_) [D] _ _ hM (Oth.refl _ _) ?_
    · have hc4 := (Boxed.oth hw3 ho').cell
      simp [results, go_sem, hc4]
    · intro w' ho
      exact ⟨A2, n2, c2, l2, by rw [h8], hi2, hr3.oth ho, below_oth hb3 ho (Nat.le_refl _)⟩
end Go.Proofs.Wd
