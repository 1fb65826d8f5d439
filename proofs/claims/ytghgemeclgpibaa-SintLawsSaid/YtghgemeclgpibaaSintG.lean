/- The walk of sint.Div. -/
import Derived.Test.YtghgemeclgpibaaSintF
import Derived.Test.YtghgemeclgpibaaQuotB
import Derived.Test.YtghgemeclgpibaaFloor
namespace Go.Proofs.Wd
open Go.RowKit Lb
attribute [local go_sem] Oper.semAt_some wide_fn wide_depth

/-- Two results' boxes, filled. -/
def put22 (W : World) (b b' : Nat) (x y x' y' : Value) : World := (((W.setCell ⟨b, 0, none⟩ x).setCell ⟨b, 1, none⟩ y).setCell ⟨b', 0, none⟩ x').setCell ⟨b', 1, none⟩ y'
theorem put22_box {W : World} {b b' : Nat} {t t' : TypeId} {u z u' z' : Value} (h : BoxN W b t #[u, z]) (h' : BoxN W b' t' #[u', z']) (hne : b ≠ b') (x y x' y' : Value) :
    BoxN (put22 W b b' x y x' y') b t #[x, y] ∧ BoxN (put22 W b b' x y x' y') b' t' #[x', y'] :=
  ⟨(((h.set 0 x).set 1 y).other (p := ⟨b', 0, none⟩) hne x').other (p := ⟨b', 1, none⟩) hne y', (((h'.other (p := ⟨b, 0, none⟩) hne.symm x).other (p := ⟨b, 1, none⟩) hne.symm y).set 0 x').set 1 y'⟩
theorem put22_rd {W : World} {b b' : Nat} {t t' : TypeId} {s s' : Bool} {A0 A0' : Option Addr} {n0 c0 n0' c0' : Nat} (h : BoxN W b t #[.bool s, .slice A0 n0 c0]) (h' : BoxN W b' t' #[.bool s', .slice A0' n0' c0']) (hne : b ≠ b') (x y x' y' : Value)
    {A : Option Addr} {n c : Nat} {l : List Nat} (hr : Rd W A n c l) : Rd (put22 W b b' x y x' y') A n c l := by
  have h1 := h.set 0 x
  have h2 := h1.set 1 y
  have g2 := (h'.other (p := ⟨b, 0, none⟩) hne.symm x).other (p := ⟨b, 1, none⟩) hne.symm y
  have g3 := g2.set 0 x'
  exact (((hr.setN h (i := 0) rfl (fun _ => by simp) x).setN h1 (i := 1) rfl (fun _ => by simp) y).setN g2 (i := 0) rfl (fun _ => by simp) x').setN g3 (i := 1) rfl (fun _ => by simp) y'
theorem put22_below {w W : World} {B b b' : Nat} (h : Below B w W) (hb : B ≤ b) (hb' : B ≤ b') (x y x' y' : Value) : Below B w (put22 W b b' x y x' y') :=
  (((h.setCell (p := ⟨b, 0, none⟩) hb x).setCell (p := ⟨b, 1, none⟩) hb y).setCell (p := ⟨b', 0, none⟩) hb' x').setCell (p := ⟨b', 1, none⟩) hb' y'

/-- What sint.Div returns. -/
def RetIDiv (w : World) (v v' : Int) : Ending → World → Prop := fun e w' => ∃ q r A1 n1 c1 l1 A2 n2 c2 l2, e = .returned (.tuple #[.agg #[.bool (decide (q < 0)), .slice A1 n1 c1], .agg #[.bool (decide (r < 0)), .slice A2 n2 c2], .int .i64 0]) ∧ v = q * v' + r ∧ FloorRest r v' ∧
  Is l1 q.natAbs ∧ Rd w' A1 n1 c1 l1 ∧ Is l2 r.natAbs ∧ Rd w' A2 n2 c2 l2 ∧ Below w.heap.size w w'

set_option maxRecDepth 100000 in
set_option maxHeartbeats 2000000 in
theorem sdiv_zero (s : Bool) (A : Option Addr) (n c : Nat) (l : List Nat) (s' : Bool) (A' : Option Addr) (n' c' : Nat) (l' : List Nat) (w : World) (v v' : Int) (h : Rd w A n c l) (ht : Lt l) (h' : Rd w A' n' c' l') (ht' : Lt l') (m : Nat) (hl : n ≤ m) (hl' : n' ≤ m) (hm : m ≤ 1000) (hv : iv s l = v) (hv' : iv s' l' = v') (hz : v' = 0) :
    Calls Try.prog 10 #[.agg #[.bool s, .slice A n c], .agg #[.bool s', .slice A' n' c']] w fun e w' => e = .returned (.tuple #[.agg #[.bool false, .slice none 0 0], .agg #[.bool false, .slice none 0 0], .int .i64 30]) ∧ Below w.heap.size w w' := by
  have hmix : Try.prog.follows .mixedOrders = true := by kernel_rfl
  go_enter Try.func10, Try.ntmps10
  go_wp2
  refine (wpIn_wide (n := 0)).1 ?_
  obtain ⟨W0, hW0⟩ : ∃ W0, ((((w.alloc (.cells #[.bool s, .slice A n c] 25)).alloc (.cells #[.bool s', .slice A' n' c'] 25)).alloc (.cells #[.bool false, .slice none 0 0] 25)).alloc (.cells #[.bool false, .slice none 0 0] 25)) = W0 := ⟨_, rfl⟩
  have x0 : BoxN W0 w.heap.size 25 #[.bool s, .slice A n c] := by rw [← hW0]; exact (((BoxN.new w _ _).alloc _).alloc _).alloc _
  have x1 : BoxN W0 (w.heap.size + 1) 25 #[.bool s', .slice A' n' c'] := by rw [← hW0]; exact ((BoxN.at_ _ _ _ (by simp)).alloc _).alloc _
  have x2 : BoxN W0 (w.heap.size + 1 + 1) 25 #[.bool false, .slice none 0 0] := by rw [← hW0]; exact (BoxN.at_ _ _ _ (by simp)).alloc _
  have x3 : BoxN W0 (w.heap.size + 1 + 1 + 1) 25 #[.bool false, .slice none 0 0] := by rw [← hW0]; exact BoxN.at_ _ _ _ (by simp)
  have hB0 : Below w.heap.size w W0 := by rw [← hW0]; exact ((((Below.refl _ w).alloc (Nat.le_refl _) _).alloc (by simp) _).alloc (by simp; omega) _).alloc (by simp; omega) _
  rw [hW0]
  clear hW0
  refine wpIn_region_C 100 (fun W => (W.cell? ⟨w.heap.size, 0, none⟩ = some (.bool s) ∧ W.cell? ⟨w.heap.size, 1, none⟩ = some (.slice A n c)) ∧ W.cell? ⟨w.heap.size + 1, 0, none⟩ = some (.bool s') ∧ W.cell? ⟨w.heap.size + 1, 1, none⟩ = some (.slice A' n' c')) hmix ?_
  have d1 := And.intro x0.facts2.1 x1.facts2.1
  refine takeC (i := 0) (v := ?vv1) (by kernel_rfl) (by kernel_rfl) rfl (by kernel_rfl) (by kernel_rfl) (by kernel_rfl) (fun _ _ _ h => h) d1 ⟨.inl ⟨rfl, ?yy1⟩, fun _ => rfl⟩ ?_
  case yy1 =>
    rintro wx ⟨⟨q1, q2⟩, q3, q4⟩
    go_simp
    first | done | rfl
  refine takeC (i := 2) (v := ?vv2) (by kernel_rfl) (by kernel_rfl) rfl (by kernel_rfl) (by kernel_rfl) (by kernel_rfl) (fun _ _ _ h => h) d1 ⟨.inl ⟨rfl, ?yy2⟩, fun _ => rfl⟩ ?_
  case yy2 =>
    rintro wx ⟨⟨q1, q2⟩, q3, q4⟩
    go_simp
    first | done | rfl
  have hof1 := sof_any s A n c l _ ((h.below hB0).drew) ht (by omega)
  rw [hv] at hof1
  refine oneC (i := 1) (by kernel_rfl) rfl (fun K hK => ?_)
  go_simp
  refine CallsIn.mono (callsIn_wide.2 hof1) ?_
  rintro e w1 ⟨Bx, rfl, hBx, hnx, hb1⟩
  have hB1 : Below W0.heap.size W0 w1 := ((Below.refl _ W0).drew).trans hb1
  refine hK _ _ (.inr ⟨(x0.kept hB1).facts2.1, (x1.kept hB1).facts2.1⟩) ?_
  clear hK K
  have hof2 := sof_any s' A' n' c' l' _ (h'.below (hB0.trans (hB1.mono hB0.size))) ht' (by omega)
  rw [hv'] at hof2
  refine oneC (i := 3) (by kernel_rfl) rfl (fun K hK => ?_)
  go_simp
  refine CallsIn.mono (callsIn_wide.2 hof2) ?_
  rintro e w2 ⟨By, rfl, hBy, hny, hb2⟩
  have hB2 : Below W0.heap.size W0 w2 := hB1.trans (hb2.mono hB1.size)
  have d2 := And.intro (x0.kept hB2).facts2.1 (x1.kept hB2).facts2.1
  refine hK _ _ (.inr d2) ?_
  clear hK K
  refine takeC (i := 4) (v := ?vv3) (by kernel_rfl) (by kernel_rfl) rfl (by kernel_rfl) (by kernel_rfl) (by kernel_rfl) (fun _ _ _ h => h) d2 ⟨.inl ⟨rfl, ?yy3⟩, fun _ => rfl⟩ ?_
  case yy3 =>
    rintro wx ⟨⟨q1, q2⟩, q3, q4⟩
    go_simp
    first | done | rfl
  refine takeC (i := 5) (v := ?vv4) (by kernel_rfl) (by kernel_rfl) rfl (by kernel_rfl) (by kernel_rfl) (by kernel_rfl) (fun _ _ _ h => h) d2 ⟨.inl ⟨rfl, ?yy4⟩, fun _ => rfl⟩ ?_
  case yy4 =>
    rintro wx ⟨⟨q1, q2⟩, q3, q4⟩
    go_simp
    first | done | rfl
  refine doneP (by kernel_rfl) ?_
  obtain ⟨Ax, nx, cx, lx, hbx, hix, hrx⟩ := hnx.kept hb2
  obtain ⟨Ay, ny, cy, ly, hby, hiy, hry⟩ := hny
  obtain ⟨⟨g0, g1⟩, g2, g3⟩ := hbx.facts2
  obtain ⟨⟨k0, k1⟩, k2, k3⟩ := hby.facts2
  have hnx2 : nx ≤ m := by rw [← hrx.len]; refine hix.len ?_; rw [← hv]; exact iv_bound ht h.len hl
  have hny2 : ny ≤ m := by rw [← hry.len]; refine hiy.len ?_; rw [← hv']; exact iv_bound ht' h'.len hl'
  go_wp2
  refine (wpIn_wide (n := 0)).1 ?_
  refine wpIn_region_C 100 (fun W => (W.cell? ⟨Bx, 0, none⟩ = some (.bool (decide (v < 0))) ∧ W.cell? ⟨Bx, 1, none⟩ = some (.slice Ax nx cx)) ∧ W.cell? ⟨By, 0, none⟩ = some (.bool (decide (v' < 0))) ∧ W.cell? ⟨By, 1, none⟩ = some (.slice Ay ny cy)) hmix ?_
  have d3 := And.intro hbx.facts2.1 hby.facts2.1
  refine takeC (i := 0) (v := ?vv5) (by kernel_rfl) (by kernel_rfl) rfl (by kernel_rfl) (by kernel_rfl) (by kernel_rfl) (fun _ _ _ h => h) d3 ⟨.inl ⟨rfl, ?yy5⟩, fun _ => rfl⟩ ?_
  case yy5 =>
    rintro wx ⟨⟨q1, q2⟩, q3, q4⟩
    go_simp
    first | done | rfl
  refine takeC (i := 1) (v := ?vv6) (by kernel_rfl) (by kernel_rfl) rfl (by kernel_rfl) (by kernel_rfl) (by kernel_rfl) (fun _ _ _ h => h) d3 ⟨.inl ⟨rfl, ?yy6⟩, fun _ => rfl⟩ ?_
  case yy6 =>
    rintro wx ⟨⟨q1, q2⟩, q3, q4⟩
    go_simp
    first | done | rfl
  refine takeC (i := 2) (v := ?vv7) (by kernel_rfl) (by kernel_rfl) rfl (by kernel_rfl) (by kernel_rfl) (by kernel_rfl) (fun _ _ _ h => h) d3 ⟨.inl ⟨rfl, ?yy7⟩, fun _ => rfl⟩ ?_
  case yy7 =>
    rintro wx ⟨⟨q1, q2⟩, q3, q4⟩
    go_simp
    first | done | rfl
  refine takeC (i := 3) (v := ?vv8) (by kernel_rfl) (by kernel_rfl) rfl (by kernel_rfl) (by kernel_rfl) (by kernel_rfl) (fun _ _ _ h => h) d3 ⟨.inl ⟨rfl, ?yy8⟩, fun _ => rfl⟩ ?_
  case yy8 =>
    rintro wx ⟨⟨q1, q2⟩, q3, q4⟩
    go_simp
    first | done | rfl
  refine takeC (i := 4) (v := ?vv9) (by kernel_rfl) (by kernel_rfl) rfl (by kernel_rfl) (by kernel_rfl) (by kernel_rfl) (fun _ _ _ h => h) d3 ⟨.inl ⟨rfl, ?yy9⟩, fun _ => rfl⟩ ?_
  case yy9 =>
    rintro wx ⟨⟨q1, q2⟩, q3, q4⟩
    go_simp
    first | done | rfl
  refine takeC (i := 5) (v := ?vv10) (by kernel_rfl) (by kernel_rfl) rfl (by kernel_rfl) (by kernel_rfl) (by kernel_rfl) (fun _ _ _ h => h) d3 ⟨.inl ⟨rfl, ?yy10⟩, fun _ => rfl⟩ ?_
  case yy10 =>
    rintro wx ⟨⟨q1, q2⟩, q3, q4⟩
    go_simp
    first | done | rfl
  refine takeC (i := 6) (v := ?vv11) (by kernel_rfl) (by kernel_rfl) rfl (by kernel_rfl) (by kernel_rfl) (by kernel_rfl) (fun _ _ _ h => h) d3 ⟨.inl ⟨rfl, ?yy11⟩, fun _ => rfl⟩ ?_
  case yy11 =>
    rintro wx ⟨⟨q1, q2⟩, q3, q4⟩
    go_simp
    first | done | rfl
  refine takeC (i := 7) (v := ?vv12) (by kernel_rfl) (by kernel_rfl) rfl (by kernel_rfl) (by kernel_rfl) (by kernel_rfl) (fun _ _ _ h => h) d3 ⟨.inl ⟨rfl, ?yy12⟩, fun _ => rfl⟩ ?_
  case yy12 =>
    rintro wx ⟨⟨q1, q2⟩, q3, q4⟩
    go_simp
    first | done | rfl
  refine takeC (i := 8) (v := ?vv13) (by kernel_rfl) (by kernel_rfl) rfl (by kernel_rfl) (by kernel_rfl) (by kernel_rfl) (fun _ _ _ h => h) d3 ⟨.inl ⟨rfl, ?yy13⟩, fun _ => rfl⟩ ?_
  case yy13 =>
    rintro wx ⟨⟨q1, q2⟩, q3, q4⟩
    go_simp
    first | done | rfl
  refine takeC (i := 9) (v := ?vv14) (by kernel_rfl) (by kernel_rfl) rfl (by kernel_rfl) (by kernel_rfl) (by kernel_rfl) (fun _ _ _ h => h) d3 ⟨.inl ⟨rfl, ?yy14⟩, fun _ => rfl⟩ ?_
  case yy14 =>
    rintro wx ⟨⟨q1, q2⟩, q3, q4⟩
    go_simp
    first | done | rfl
  have hval0 : val ly = 0 := by rw [hiy.val, hz]; rfl
  refine oneC (i := 10) (by kernel_rfl) rfl (fun K hK => ?_)
  go_simp
  refine CallsIn.mono (callsIn_wide.2 (qdiv_zero Ax nx cx lx Ay ny cy ly _ hrx.drew hix.lt hry.drew hiy.lt (by omega) (by omega) hval0)) ?_
  rintro e w3 ⟨rfl, hb3⟩
  have hB3 : Below w2.heap.size w2 w3 := ((Below.refl _ w2).drew).trans hb3
  have d4 := And.intro (hbx.kept hB3).facts2.1 (hby.kept hB3).facts2.1
  refine hK _ _ (.inr d4) ?_
  clear hK K
  refine oneC (i := 11) (by kernel_rfl) rfl (fun K hK => ?_)
  go_simp
  refine hK _ _ (.inr d4) ?_
  clear hK K
  refine takeC (i := 12) (v := ?vv15) (by kernel_rfl) (by kernel_rfl) rfl (by kernel_rfl) (by kernel_rfl) (by kernel_rfl) (fun _ _ _ h => h) d4 ⟨.inl ⟨rfl, ?yy15⟩, fun _ => rfl⟩ ?_
  case yy15 =>
    rintro wx ⟨⟨q1, q2⟩, q3, q4⟩
    go_simp
    first | done | rfl
  refine takeC (i := 13) (v := ?vv16) (by kernel_rfl) (by kernel_rfl) rfl (by kernel_rfl) (by kernel_rfl) (by kernel_rfl) (fun _ _ _ h => h) d4 ⟨.inl ⟨rfl, ?yy16⟩, fun _ => rfl⟩ ?_
  case yy16 =>
    rintro wx ⟨⟨q1, q2⟩, q3, q4⟩
    go_simp
    first | done | rfl
  refine takeC (i := 14) (v := ?vv17) (by kernel_rfl) (by kernel_rfl) rfl (by kernel_rfl) (by kernel_rfl) (by kernel_rfl) (fun _ _ _ h => h) d4 ⟨.inl ⟨rfl, ?yy17⟩, fun _ => rfl⟩ ?_
  case yy17 =>
    rintro wx ⟨⟨q1, q2⟩, q3, q4⟩
    go_simp
    first | done | rfl
  refine takeC (i := 15) (v := ?vv18) (by kernel_rfl) (by kernel_rfl) rfl (by kernel_rfl) (by kernel_rfl) (by kernel_rfl) (fun _ _ _ h => h) d4 ⟨.inl ⟨rfl, ?yy18⟩, fun _ => rfl⟩ ?_
  case yy18 =>
    rintro wx ⟨⟨q1, q2⟩, q3, q4⟩
    go_simp
    first | done | rfl
  refine takeC (i := 16) (v := ?vv19) (by kernel_rfl) (by kernel_rfl) rfl (by kernel_rfl) (by kernel_rfl) (by kernel_rfl) (fun _ _ _ h => h) d4 ⟨.inl ⟨rfl, ?yy19⟩, fun _ => rfl⟩ ?_
  case yy19 =>
    rintro wx ⟨⟨q1, q2⟩, q3, q4⟩
    go_simp
    first | done | rfl
  refine takeC (i := 17) (v := ?vv20) (by kernel_rfl) (by kernel_rfl) rfl (by kernel_rfl) (by kernel_rfl) (by kernel_rfl) (fun _ _ _ h => h) d4 ⟨.inl ⟨rfl, ?yy20⟩, fun _ => rfl⟩ ?_
  case yy20 =>
    rintro wx ⟨⟨q1, q2⟩, q3, q4⟩
    go_simp
    first | done | rfl
  refine doneP (by kernel_rfl) ?_
  have hB4 := hB2.trans (hB3.mono hB2.size)
  have hx2 := x2.kept hB4; have hx3 := x3.kept hB4
  obtain ⟨⟨m0, m1⟩, m2, m3⟩ := hx2.facts2
  obtain ⟨⟨p0, p1⟩, p2, p3⟩ := hx3.facts2
  go_wp2_with (first | go_region | fail)
  all_goals
    obtain ⟨y2, y3⟩ := put22_box hx2 hx3 (by omega) (.bool false) (.slice none 0 0) (.bool false) (.slice none 0 0)
    obtain ⟨⟨m0, m1⟩, _, _⟩ := y2.drew.facts2
    obtain ⟨⟨p0, p1⟩, _, _⟩ := y3.drew.facts2
    unfold put22 at m0 m1 p0 p1
    refine bodyPost_ret (v := .tuple #[.agg #[.bool false, .slice none 0 0], .agg #[.bool false, .slice none 0 0], .int .i64 30]) (by simp [results, Try.results10, go_sem, m0, m1, p0, p1]) rfl ?_
    refine ⟨rfl, ?_⟩
    have := (put22_below (hB0.trans (hB4.mono hB0.size)) (b := w.heap.size + 1 + 1) (b' := w.heap.size + 1 + 1 + 1) (by omega) (by omega) (.bool false) (.slice none 0 0) (.bool false) (.slice none 0 0)).drew
    exact this

theorem decide_eq_of_both {v v' : Int} (h : decide (v < 0) = decide (v' < 0)) : (decide (v < 0) == decide (v' < 0)) = true := by rw [h]; cases decide (v' < 0) <;> rfl
theorem decide_bne_of_both {v v' : Int} (h : decide (v < 0) = decide (v' < 0)) : (decide (v < 0) != decide (v' < 0)) = false := by rw [h]; cases decide (v' < 0) <;> rfl
theorem decide_bne_of_not {v v' : Int} (h : (decide (v < 0) == decide (v' < 0)) = false) : (decide (v < 0) != decide (v' < 0)) = true := by rw [bne, h]; rfl

set_option maxRecDepth 100000 in
set_option maxHeartbeats 4000000 in
theorem sdiv_any (s : Bool) (A : Option Addr) (n c : Nat) (l : List Nat) (s' : Bool) (A' : Option Addr) (n' c' : Nat) (l' : List Nat) (w : World) (v v' : Int) (h : Rd w A n c l) (ht : Lt l) (h' : Rd w A' n' c' l') (ht' : Lt l') (m : Nat) (hl : n ≤ m) (hl' : n' ≤ m) (hm : m ≤ 1000) (hv : iv s l = v) (hv' : iv s' l' = v') (hz : v' ≠ 0) (hqd : QDiv v.natAbs v'.natAbs) :
    Calls Try.prog 10 #[.agg #[.bool s, .slice A n c], .agg #[.bool s', .slice A' n' c']] w (RetIDiv w v v') := by
  have hmix : Try.prog.follows .mixedOrders = true := by kernel_rfl
  go_enter Try.func10, Try.ntmps10
  go_wp2
  refine (wpIn_wide (n := 0)).1 ?_
  obtain ⟨W0, hW0⟩ : ∃ W0, ((((w.alloc (.cells #[.bool s, .slice A n c] 25)).alloc (.cells #[.bool s', .slice A' n' c'] 25)).alloc (.cells #[.bool false, .slice none 0 0] 25)).alloc (.cells #[.bool false, .slice none 0 0] 25)) = W0 := ⟨_, rfl⟩
  have x0 : BoxN W0 w.heap.size 25 #[.bool s, .slice A n c] := by rw [← hW0]; exact (((BoxN.new w _ _).alloc _).alloc _).alloc _
  have x1 : BoxN W0 (w.heap.size + 1) 25 #[.bool s', .slice A' n' c'] := by rw [← hW0]; exact ((BoxN.at_ _ _ _ (by simp)).alloc _).alloc _
  have x2 : BoxN W0 (w.heap.size + 1 + 1) 25 #[.bool false, .slice none 0 0] := by rw [← hW0]; exact (BoxN.at_ _ _ _ (by simp)).alloc _
  have x3 : BoxN W0 (w.heap.size + 1 + 1 + 1) 25 #[.bool false, .slice none 0 0] := by rw [← hW0]; exact BoxN.at_ _ _ _ (by simp)
  have hB0 : Below w.heap.size w W0 := by rw [← hW0]; exact ((((Below.refl _ w).alloc (Nat.le_refl _) _).alloc (by simp) _).alloc (by simp; omega) _).alloc (by simp; omega) _
  rw [hW0]
  clear hW0
  refine wpIn_region_C 100 (fun W => (W.cell? ⟨w.heap.size, 0, none⟩ = some (.bool s) ∧ W.cell? ⟨w.heap.size, 1, none⟩ = some (.slice A n c)) ∧ W.cell? ⟨w.heap.size + 1, 0, none⟩ = some (.bool s') ∧ W.cell? ⟨w.heap.size + 1, 1, none⟩ = some (.slice A' n' c')) hmix ?_
  have d1 := And.intro x0.facts2.1 x1.facts2.1
  refine takeC (i := 0) (v := ?vv21) (by kernel_rfl) (by kernel_rfl) rfl (by kernel_rfl) (by kernel_rfl) (by kernel_rfl) (fun _ _ _ h => h) d1 ⟨.inl ⟨rfl, ?yy21⟩, fun _ => rfl⟩ ?_
  case yy21 =>
    rintro wx ⟨⟨q1, q2⟩, q3, q4⟩
    go_simp
    first | done | rfl
  refine takeC (i := 2) (v := ?vv22) (by kernel_rfl) (by kernel_rfl) rfl (by kernel_rfl) (by kernel_rfl) (by kernel_rfl) (fun _ _ _ h => h) d1 ⟨.inl ⟨rfl, ?yy22⟩, fun _ => rfl⟩ ?_
  case yy22 =>
    rintro wx ⟨⟨q1, q2⟩, q3, q4⟩
    go_simp
    first | done | rfl
  have hof1 := sof_any s A n c l _ ((h.below hB0).drew) ht (by omega)
  rw [hv] at hof1
  refine oneC (i := 1) (by kernel_rfl) rfl (fun K hK => ?_)
  go_simp
  refine CallsIn.mono (callsIn_wide.2 hof1) ?_
  rintro e w1 ⟨Bx, rfl, hBx, hnx, hb1⟩
  have hB1 : Below W0.heap.size W0 w1 := ((Below.refl _ W0).drew).trans hb1
  refine hK _ _ (.inr ⟨(x0.kept hB1).facts2.1, (x1.kept hB1).facts2.1⟩) ?_
  clear hK K
  have hof2 := sof_any s' A' n' c' l' _ (h'.below (hB0.trans (hB1.mono hB0.size))) ht' (by omega)
  rw [hv'] at hof2
  refine oneC (i := 3) (by kernel_rfl) rfl (fun K hK => ?_)
  go_simp
  refine CallsIn.mono (callsIn_wide.2 hof2) ?_
  rintro e w2 ⟨By, rfl, hBy, hny, hb2⟩
  have hB2 : Below W0.heap.size W0 w2 := hB1.trans (hb2.mono hB1.size)
  have d2 := And.intro (x0.kept hB2).facts2.1 (x1.kept hB2).facts2.1
  refine hK _ _ (.inr d2) ?_
  clear hK K
  refine takeC (i := 4) (v := ?vv23) (by kernel_rfl) (by kernel_rfl) rfl (by kernel_rfl) (by kernel_rfl) (by kernel_rfl) (fun _ _ _ h => h) d2 ⟨.inl ⟨rfl, ?yy23⟩, fun _ => rfl⟩ ?_
  case yy23 =>
    rintro wx ⟨⟨q1, q2⟩, q3, q4⟩
    go_simp
    first | done | rfl
  refine takeC (i := 5) (v := ?vv24) (by kernel_rfl) (by kernel_rfl) rfl (by kernel_rfl) (by kernel_rfl) (by kernel_rfl) (fun _ _ _ h => h) d2 ⟨.inl ⟨rfl, ?yy24⟩, fun _ => rfl⟩ ?_
  case yy24 =>
    rintro wx ⟨⟨q1, q2⟩, q3, q4⟩
    go_simp
    first | done | rfl
  refine doneP (by kernel_rfl) ?_
  obtain ⟨Ax, nx, cx, lx, hbx, hix, hrx⟩ := hnx.kept hb2
  obtain ⟨Ay, ny, cy, ly, hby, hiy, hry⟩ := hny
  obtain ⟨⟨g0, g1⟩, g2, g3⟩ := hbx.facts2
  obtain ⟨⟨k0, k1⟩, k2, k3⟩ := hby.facts2
  have hnx2 : nx ≤ m := by rw [← hrx.len]; refine hix.len ?_; rw [← hv]; exact iv_bound ht h.len hl
  have hny2 : ny ≤ m := by rw [← hry.len]; refine hiy.len ?_; rw [← hv']; exact iv_bound ht' h'.len hl'
  go_wp2
  refine (wpIn_wide (n := 0)).1 ?_
  refine wpIn_region_C 100 (fun W => (W.cell? ⟨Bx, 0, none⟩ = some (.bool (decide (v < 0))) ∧ W.cell? ⟨Bx, 1, none⟩ = some (.slice Ax nx cx)) ∧ W.cell? ⟨By, 0, none⟩ = some (.bool (decide (v' < 0))) ∧ W.cell? ⟨By, 1, none⟩ = some (.slice Ay ny cy)) hmix ?_
  have d3 := And.intro hbx.facts2.1 hby.facts2.1
  refine takeC (i := 0) (v := ?vv25) (by kernel_rfl) (by kernel_rfl) rfl (by kernel_rfl) (by kernel_rfl) (by kernel_rfl) (fun _ _ _ h => h) d3 ⟨.inl ⟨rfl, ?yy25⟩, fun _ => rfl⟩ ?_
  case yy25 =>
    rintro wx ⟨⟨q1, q2⟩, q3, q4⟩
    go_simp
    first | done | rfl
  refine takeC (i := 1) (v := ?vv26) (by kernel_rfl) (by kernel_rfl) rfl (by kernel_rfl) (by kernel_rfl) (by kernel_rfl) (fun _ _ _ h => h) d3 ⟨.inl ⟨rfl, ?yy26⟩, fun _ => rfl⟩ ?_
  case yy26 =>
    rintro wx ⟨⟨q1, q2⟩, q3, q4⟩
    go_simp
    first | done | rfl
  refine takeC (i := 2) (v := ?vv27) (by kernel_rfl) (by kernel_rfl) rfl (by kernel_rfl) (by kernel_rfl) (by kernel_rfl) (fun _ _ _ h => h) d3 ⟨.inl ⟨rfl, ?yy27⟩, fun _ => rfl⟩ ?_
  case yy27 =>
    rintro wx ⟨⟨q1, q2⟩, q3, q4⟩
    go_simp
    first | done | rfl
  refine takeC (i := 3) (v := ?vv28) (by kernel_rfl) (by kernel_rfl) rfl (by kernel_rfl) (by kernel_rfl) (by kernel_rfl) (fun _ _ _ h => h) d3 ⟨.inl ⟨rfl, ?yy28⟩, fun _ => rfl⟩ ?_
  case yy28 =>
    rintro wx ⟨⟨q1, q2⟩, q3, q4⟩
    go_simp
    first | done | rfl
  refine takeC (i := 4) (v := ?vv29) (by kernel_rfl) (by kernel_rfl) rfl (by kernel_rfl) (by kernel_rfl) (by kernel_rfl) (fun _ _ _ h => h) d3 ⟨.inl ⟨rfl, ?yy29⟩, fun _ => rfl⟩ ?_
  case yy29 =>
    rintro wx ⟨⟨q1, q2⟩, q3, q4⟩
    go_simp
    first | done | rfl
  refine takeC (i := 5) (v := ?vv30) (by kernel_rfl) (by kernel_rfl) rfl (by kernel_rfl) (by kernel_rfl) (by kernel_rfl) (fun _ _ _ h => h) d3 ⟨.inl ⟨rfl, ?yy30⟩, fun _ => rfl⟩ ?_
  case yy30 =>
    rintro wx ⟨⟨q1, q2⟩, q3, q4⟩
    go_simp
    first | done | rfl
  refine takeC (i := 6) (v := ?vv31) (by kernel_rfl) (by kernel_rfl) rfl (by kernel_rfl) (by kernel_rfl) (by kernel_rfl) (fun _ _ _ h => h) d3 ⟨.inl ⟨rfl, ?yy31⟩, fun _ => rfl⟩ ?_
  case yy31 =>
    rintro wx ⟨⟨q1, q2⟩, q3, q4⟩
    go_simp
    first | done | rfl
  refine takeC (i := 7) (v := ?vv32) (by kernel_rfl) (by kernel_rfl) rfl (by kernel_rfl) (by kernel_rfl) (by kernel_rfl) (fun _ _ _ h => h) d3 ⟨.inl ⟨rfl, ?yy32⟩, fun _ => rfl⟩ ?_
  case yy32 =>
    rintro wx ⟨⟨q1, q2⟩, q3, q4⟩
    go_simp
    first | done | rfl
  refine takeC (i := 8) (v := ?vv33) (by kernel_rfl) (by kernel_rfl) rfl (by kernel_rfl) (by kernel_rfl) (by kernel_rfl) (fun _ _ _ h => h) d3 ⟨.inl ⟨rfl, ?yy33⟩, fun _ => rfl⟩ ?_
  case yy33 =>
    rintro wx ⟨⟨q1, q2⟩, q3, q4⟩
    go_simp
    first | done | rfl
  refine takeC (i := 9) (v := ?vv34) (by kernel_rfl) (by kernel_rfl) rfl (by kernel_rfl) (by kernel_rfl) (by kernel_rfl) (fun _ _ _ h => h) d3 ⟨.inl ⟨rfl, ?yy34⟩, fun _ => rfl⟩ ?_
  case yy34 =>
    rintro wx ⟨⟨q1, q2⟩, q3, q4⟩
    go_simp
    first | done | rfl
  refine oneC (i := 10) (by kernel_rfl) rfl (fun K hK => ?_)
  go_simp
  refine CallsIn.mono (callsIn_wide.2 (hqd Ax nx cx lx Ay ny cy ly _ hrx.drew hix.lt hry.drew hiy.lt hix.val hiy.val (by omega) (by omega))) ?_
  rintro e w3 ⟨Aq, nq, cq, lq, Ar, nr, cr, lr, rfl, hiq, hrq, hir, hrr, hb3⟩
  have hB3 : Below w2.heap.size w2 w3 := ((Below.refl _ w2).drew).trans hb3
  have hbx3 := hbx.kept hB3; have hby3 := hby.kept hB3
  have d4 := And.intro hbx3.facts2.1 hby3.facts2.1
  refine hK _ _ (.inr d4) ?_
  clear hK K
  refine oneC (i := 11) (by kernel_rfl) rfl (fun K hK => ?_)
  go_simp
  refine hK _ _ (.inr d4) ?_
  clear hK K
  refine takeC (i := 12) (v := ?vv35) (by kernel_rfl) (by kernel_rfl) rfl (by kernel_rfl) (by kernel_rfl) (by kernel_rfl) (fun _ _ _ h => h) d4 ⟨.inl ⟨rfl, ?yy35⟩, fun _ => rfl⟩ ?_
  case yy35 =>
    rintro wx ⟨⟨q1, q2⟩, q3, q4⟩
    go_simp
    first | done | rfl
  refine takeC (i := 13) (v := ?vv36) (by kernel_rfl) (by kernel_rfl) rfl (by kernel_rfl) (by kernel_rfl) (by kernel_rfl) (fun _ _ _ h => h) d4 ⟨.inl ⟨rfl, ?yy36⟩, fun _ => rfl⟩ ?_
  case yy36 =>
    rintro wx ⟨⟨q1, q2⟩, q3, q4⟩
    go_simp
    first | done | rfl
  refine takeC (i := 14) (v := ?vv37) (by kernel_rfl) (by kernel_rfl) rfl (by kernel_rfl) (by kernel_rfl) (by kernel_rfl) (fun _ _ _ h => h) d4 ⟨.inl ⟨rfl, ?yy37⟩, fun _ => rfl⟩ ?_
  case yy37 =>
    rintro wx ⟨⟨q1, q2⟩, q3, q4⟩
    go_simp
    first | done | rfl
  refine takeC (i := 15) (v := ?vv38) (by kernel_rfl) (by kernel_rfl) rfl (by kernel_rfl) (by kernel_rfl) (by kernel_rfl) (fun _ _ _ h => h) d4 ⟨.inl ⟨rfl, ?yy38⟩, fun _ => rfl⟩ ?_
  case yy38 =>
    rintro wx ⟨⟨q1, q2⟩, q3, q4⟩
    go_simp
    first | done | rfl
  refine takeC (i := 16) (v := ?vv39) (by kernel_rfl) (by kernel_rfl) rfl (by kernel_rfl) (by kernel_rfl) (by kernel_rfl) (fun _ _ _ h => h) d4 ⟨.inl ⟨rfl, ?yy39⟩, fun _ => rfl⟩ ?_
  case yy39 =>
    rintro wx ⟨⟨q1, q2⟩, q3, q4⟩
    go_simp
    first | done | rfl
  refine takeC (i := 17) (v := ?vv40) (by kernel_rfl) (by kernel_rfl) rfl (by kernel_rfl) (by kernel_rfl) (by kernel_rfl) (fun _ _ _ h => h) d4 ⟨.inl ⟨rfl, ?yy40⟩, fun _ => rfl⟩ ?_
  case yy40 =>
    rintro wx ⟨⟨q1, q2⟩, q3, q4⟩
    go_simp
    first | done | rfl
  refine doneP (by kernel_rfl) ?_
  have hB4 := hB2.trans (hB3.mono hB2.size)
  have hx2 := x2.kept hB4; have hx3 := x3.kept hB4
  obtain ⟨⟨m0, m1⟩, m2, m3⟩ := hx2.facts2
  obtain ⟨⟨p0, p1⟩, p2, p3⟩ := hx3.facts2
  obtain ⟨⟨e0, e1⟩, _, _⟩ := hbx3.facts2
  obtain ⟨⟨f0, f1⟩, _, _⟩ := hby3.facts2
  have hBy2 : W0.heap.size ≤ By := Nat.le_trans hB1.size hBy
  have hnq : nq ≤ m := by rw [← hrq.len]; exact hiq.len (Nat.lt_of_le_of_lt (Nat.div_le_self _ _) (by rw [← hv]; exact iv_bound ht h.len hl))
  have hnr : nr ≤ m := by rw [← hrr.len]; exact hir.len (Nat.lt_of_le_of_lt (Nat.mod_le _ _) (by rw [← hv]; exact iv_bound ht h.len hl))
  by_cases hs : decide (v < 0) = decide (v' < 0)
  · have hs1 := decide_bne_of_both hs
    have ky := hby3.drew
    go_wp2_with (first | go_region | fail)
    have k2 := x2.kept hB4.drew; have k3 := x3.kept hB4.drew
    refine (wpIn_wide (n := 0)).1 ?_
    refine wpIn_region_C 100 (fun W => W.cell? ⟨By, 0, none⟩ = some (.bool (decide (v' < 0)))) hmix ?_
    have d6 : (World.drew w3.drew).cell? ⟨By, 0, none⟩ = some (.bool (decide (v' < 0))) := ky.facts2.1.1
    refine takeC (i := 0) (v := ?vv41) (by kernel_rfl) (by kernel_rfl) rfl (by kernel_rfl) (by kernel_rfl) (by kernel_rfl) (fun _ _ _ h => h) d6 ⟨.inl ⟨rfl, ?yy41⟩, fun _ => rfl⟩ ?_
    case yy41 =>
      rintro wx q1
      go_simp
      first | done | rfl
    refine takeC (i := 1) (v := ?vv42) (by kernel_rfl) (by kernel_rfl) rfl (by kernel_rfl) (by kernel_rfl) (by kernel_rfl) (fun _ _ _ h => h) d6 ⟨.inl ⟨rfl, ?yy42⟩, fun _ => rfl⟩ ?_
    case yy42 =>
      rintro wx q1
      go_simp
      first | done | rfl
    refine takeC (i := 2) (v := ?vv43) (by kernel_rfl) (by kernel_rfl) rfl (by kernel_rfl) (by kernel_rfl) (by kernel_rfl) (fun _ _ _ h => h) d6 ⟨.inl ⟨rfl, ?yy43⟩, fun _ => rfl⟩ ?_
    case yy43 =>
      rintro wx q1
      go_simp
      first | done | rfl
    refine takeC (i := 4) (v := ?vv44) (by kernel_rfl) (by kernel_rfl) rfl (by kernel_rfl) (by kernel_rfl) (by kernel_rfl) (fun _ _ _ h => h) d6 ⟨.inl ⟨rfl, ?yy44⟩, fun _ => rfl⟩ ?_
    case yy44 =>
      rintro wx q1
      go_simp
      first | done | rfl
    refine takeC (i := 5) (v := ?vv45) (by kernel_rfl) (by kernel_rfl) rfl (by kernel_rfl) (by kernel_rfl) (by kernel_rfl) (fun _ _ _ h => h) d6 ⟨.inl ⟨rfl, ?yy45⟩, fun _ => rfl⟩ ?_
    case yy45 =>
      rintro wx q1
      go_simp
      first | done | rfl
    refine takeC (i := 6) (v := ?vv46) (by kernel_rfl) (by kernel_rfl) rfl (by kernel_rfl) (by kernel_rfl) (by kernel_rfl) (fun _ _ _ h => h) d6 ⟨.inl ⟨rfl, ?yy46⟩, fun _ => rfl⟩ ?_
    case yy46 =>
      rintro wx q1
      go_simp
      first | done | rfl
    refine takeC (i := 7) (v := ?vv47) (by kernel_rfl) (by kernel_rfl) rfl (by kernel_rfl) (by kernel_rfl) (by kernel_rfl) (fun _ _ _ h => h) d6 ⟨.inl ⟨rfl, ?yy47⟩, fun _ => rfl⟩ ?_
    case yy47 =>
      rintro wx q1
      go_simp
      first | done | rfl
    refine takeC (i := 8) (v := ?vv48) (by kernel_rfl) (by kernel_rfl) rfl (by kernel_rfl) (by kernel_rfl) (by kernel_rfl) (fun _ _ _ h => h) d6 ⟨.inl ⟨rfl, ?yy48⟩, fun _ => rfl⟩ ?_
    case yy48 =>
      rintro wx q1
      go_simp
      first | done | rfl
    refine takeC (i := 9) (v := ?vv49) (by kernel_rfl) (by kernel_rfl) rfl (by kernel_rfl) (by kernel_rfl) (by kernel_rfl) (fun _ _ _ h => h) d6 ⟨.inl ⟨rfl, ?yy49⟩, fun _ => rfl⟩ ?_
    case yy49 =>
      rintro wx q1
      go_simp
      first | done | rfl
    refine takeC (i := 10) (v := ?vv50) (by kernel_rfl) (by kernel_rfl) rfl (by kernel_rfl) (by kernel_rfl) (by kernel_rfl) (fun _ _ _ h => h) d6 ⟨.inl ⟨rfl, ?yy50⟩, fun _ => rfl⟩ ?_
    case yy50 =>
      rintro wx q1
      go_simp
      first | done | rfl
    have hno1 := snorm_any false Aq nq cq lq _ (Rd.drew hrq.drew) hiq.lt (by omega)
    obtain ⟨qv, hqv⟩ : ∃ qv, iv false lq = qv := ⟨_, rfl⟩
    rw [hqv] at hno1
    refine oneC (i := 3) (by kernel_rfl) rfl (fun K hK => ?_)
    go_simp
    refine CallsIn.mono (callsIn_wide.2 hno1) ?_
    rintro e w6 ⟨A6, n6, c6, l6, rfl, hi6, hr6, hb6⟩
    have hB6 : Below (World.heap w3.drew).size w3.drew w6 := ((Below.refl _ _).drew).trans hb6
    have d7 : w6.cell? ⟨By, 0, none⟩ = some (.bool (decide (v' < 0))) := (ky.kept hB6).facts2.1.1
    refine hK _ _ (.inr d7) ?_
    clear hK K
    have hno2 := snorm_any (decide (v' < 0)) Ar nr cr lr _ (Rd.below (Rd.drew hrr) hB6) hir.lt (by omega)
    obtain ⟨rv, hrv⟩ : ∃ rv, iv (decide (v' < 0)) lr = rv := ⟨_, rfl⟩
    rw [hrv] at hno2
    refine oneC (i := 11) (by kernel_rfl) rfl (fun K hK => ?_)
    go_simp
    refine CallsIn.mono (callsIn_wide.2 hno2) ?_
    rintro e w7 ⟨A7, n7, c7, l7, rfl, hi7, hr7, hb7⟩
    have hB7 : Below (World.heap w3.drew).size w3.drew w7 := hB6.trans (hb7.mono hB6.size)
    have ky7 := ky.kept hB7
    refine hK _ _ (.inr ky7.facts2.1.1) ?_
    clear hK K
    have j2 := k2.kept hB7; have j3 := k3.kept hB7
    have hl3 := x3.lt
    obtain ⟨⟨m0, m1⟩, m2, m3⟩ := j2.facts2
    obtain ⟨⟨p0, p1⟩, p2, p3⟩ := j3.facts2
    refine oneC (i := 12) (by kernel_rfl) rfl (fun K hK => ?_)
    go_simp
    have ky8 := (ky7.other (p := ⟨w.heap.size + 1 + 1, 0, none⟩) (by simp; omega) (.bool (decide (qv < 0)))).other (p := ⟨w.heap.size + 1 + 1, 1, none⟩) (by simp; omega) (.slice A6 n6 c6)
    refine hK _ _ (.inr ky8.facts2.1.1) ?_
    clear hK K
    refine oneC (i := 13) (by kernel_rfl) rfl (fun K hK => ?_)
    go_simp
    have ky9 := (ky8.other (p := ⟨w.heap.size + 1 + 1 + 1, 0, none⟩) (by simp; omega) (.bool (decide (rv < 0)))).other (p := ⟨w.heap.size + 1 + 1 + 1, 1, none⟩) (by simp; omega) (.slice A7 n7 c7)
    refine hK _ _ (.inr ky9.facts2.1.1) ?_
    clear hK K
    refine oneC (i := 14) (by kernel_rfl) rfl (fun K hK => ?_)
    go_simp
    refine hK _ _ (.inr ky9.facts2.1.1) ?_
    clear hK K
    refine doneP (by kernel_rfl) ?_
    obtain ⟨y2, y3⟩ := put22_box j2 j3 (by omega) (.bool (decide (qv < 0))) (.slice A6 n6 c6) (.bool (decide (rv < 0))) (.slice A7 n7 c7)
    obtain ⟨⟨m0, m1⟩, _, _⟩ := y2.facts2
    obtain ⟨⟨p0, p1⟩, _, _⟩ := y3.facts2
    unfold put22 at m0 m1 p0 p1
    go_wp2
    refine bodyPost_ret (v := .tuple #[.agg #[.bool (decide (qv < 0)), .slice A6 n6 c6], .agg #[.bool (decide (rv < 0)), .slice A7 n7 c7], .int .i64 0]) (by simp [results, Try.results10, go_sem, m0, m1, p0, p1]) rfl ?_
    have hmath := floor_same v v' hz hs
    rw [← hiq.val, ← hir.val] at hmath
    rw [show sg false (val lq) = qv from hqv, show sg (decide (v' < 0)) (val lr) = rv from hrv] at hmath
    have hBf := hB0.trans ((hB4.drew.trans (hB7.mono hB4.drew.size)).mono hB0.size)
    exact ⟨qv, rv, A6, n6, c6, l6, A7, n7, c7, l7, rfl, hmath.1, hmath.2, hi6, put22_rd j2 j3 (by omega) _ _ _ _ (hr6.below hb7), hi7, put22_rd j2 j3 (by omega) _ _ _ _ hr7, put22_below hBf (by omega) (by omega) _ _ _ _⟩
  · have hs' := beq_eq_false_iff_ne.2 hs
    have hs1 := decide_bne_of_not hs'
    have hzr := hir.zero_iff
    rw [hrr.len] at hzr
    rcases (by omega : nr = 0 ∨ 0 < nr) with rfl | hr1
    · have hr0 : v.natAbs % v'.natAbs = 0 := hzr.2 rfl
      have ky := hby3.drew
      go_wp2_with (first | go_region | fail)
      have k2 := x2.kept hB4.drew; have k3 := x3.kept hB4.drew
      refine (wpIn_wide (n := 0)).1 ?_
      refine wpIn_region_C 100 (fun W => W.cell? ⟨By, 0, none⟩ = some (.bool (decide (v' < 0)))) hmix ?_
      have d6 : (World.drew w3.drew).cell? ⟨By, 0, none⟩ = some (.bool (decide (v' < 0))) := ky.facts2.1.1
      refine takeC (i := 0) (v := ?vv51) (by kernel_rfl) (by kernel_rfl) rfl (by kernel_rfl) (by kernel_rfl) (by kernel_rfl) (fun _ _ _ h => h) d6 ⟨.inl ⟨rfl, ?yy51⟩, fun _ => rfl⟩ ?_
      case yy51 =>
        rintro wx q1
        go_simp
        first | done | rfl
      refine takeC (i := 1) (v := ?vv52) (by kernel_rfl) (by kernel_rfl) rfl (by kernel_rfl) (by kernel_rfl) (by kernel_rfl) (fun _ _ _ h => h) d6 ⟨.inl ⟨rfl, ?yy52⟩, fun _ => rfl⟩ ?_
      case yy52 =>
        rintro wx q1
        go_simp
        first | done | rfl
      refine takeC (i := 2) (v := ?vv53) (by kernel_rfl) (by kernel_rfl) rfl (by kernel_rfl) (by kernel_rfl) (by kernel_rfl) (fun _ _ _ h => h) d6 ⟨.inl ⟨rfl, ?yy53⟩, fun _ => rfl⟩ ?_
      case yy53 =>
        rintro wx q1
        go_simp
        first | done | rfl
      refine takeC (i := 4) (v := ?vv54) (by kernel_rfl) (by kernel_rfl) rfl (by kernel_rfl) (by kernel_rfl) (by kernel_rfl) (fun _ _ _ h => h) d6 ⟨.inl ⟨rfl, ?yy54⟩, fun _ => rfl⟩ ?_
      case yy54 =>
        rintro wx q1
        go_simp
        first | done | rfl
      refine takeC (i := 5) (v := ?vv55) (by kernel_rfl) (by kernel_rfl) rfl (by kernel_rfl) (by kernel_rfl) (by kernel_rfl) (fun _ _ _ h => h) d6 ⟨.inl ⟨rfl, ?yy55⟩, fun _ => rfl⟩ ?_
      case yy55 =>
        rintro wx q1
        go_simp
        first | done | rfl
      refine takeC (i := 6) (v := ?vv56) (by kernel_rfl) (by kernel_rfl) rfl (by kernel_rfl) (by kernel_rfl) (by kernel_rfl) (fun _ _ _ h => h) d6 ⟨.inl ⟨rfl, ?yy56⟩, fun _ => rfl⟩ ?_
      case yy56 =>
        rintro wx q1
        go_simp
        first | done | rfl
      refine takeC (i := 7) (v := ?vv57) (by kernel_rfl) (by kernel_rfl) rfl (by kernel_rfl) (by kernel_rfl) (by kernel_rfl) (fun _ _ _ h => h) d6 ⟨.inl ⟨rfl, ?yy57⟩, fun _ => rfl⟩ ?_
      case yy57 =>
        rintro wx q1
        go_simp
        first | done | rfl
      refine takeC (i := 8) (v := ?vv58) (by kernel_rfl) (by kernel_rfl) rfl (by kernel_rfl) (by kernel_rfl) (by kernel_rfl) (fun _ _ _ h => h) d6 ⟨.inl ⟨rfl, ?yy58⟩, fun _ => rfl⟩ ?_
      case yy58 =>
        rintro wx q1
        go_simp
        first | done | rfl
      refine takeC (i := 9) (v := ?vv59) (by kernel_rfl) (by kernel_rfl) rfl (by kernel_rfl) (by kernel_rfl) (by kernel_rfl) (fun _ _ _ h => h) d6 ⟨.inl ⟨rfl, ?yy59⟩, fun _ => rfl⟩ ?_
      case yy59 =>
        rintro wx q1
        go_simp
        first | done | rfl
      refine takeC (i := 10) (v := ?vv60) (by kernel_rfl) (by kernel_rfl) rfl (by kernel_rfl) (by kernel_rfl) (by kernel_rfl) (fun _ _ _ h => h) d6 ⟨.inl ⟨rfl, ?yy60⟩, fun _ => rfl⟩ ?_
      case yy60 =>
        rintro wx q1
        go_simp
        first | done | rfl
      have hno1 := snorm_any true Aq nq cq lq _ (Rd.drew hrq.drew) hiq.lt (by omega)
      obtain ⟨qv, hqv⟩ : ∃ qv, iv true lq = qv := ⟨_, rfl⟩
      rw [hqv] at hno1
      refine oneC (i := 3) (by kernel_rfl) rfl (fun K hK => ?_)
      go_simp
      refine CallsIn.mono (callsIn_wide.2 hno1) ?_
      rintro e w6 ⟨A6, n6, c6, l6, rfl, hi6, hr6, hb6⟩
      have hB6 : Below (World.heap w3.drew).size w3.drew w6 := ((Below.refl _ _).drew).trans hb6
      have d7 : w6.cell? ⟨By, 0, none⟩ = some (.bool (decide (v' < 0))) := (ky.kept hB6).facts2.1.1
      refine hK _ _ (.inr d7) ?_
      clear hK K
      have hno2 := snorm_any (decide (v' < 0)) Ar 0 cr lr _ (Rd.below (Rd.drew hrr) hB6) hir.lt (by omega)
      obtain ⟨rv, hrv⟩ : ∃ rv, iv (decide (v' < 0)) lr = rv := ⟨_, rfl⟩
      rw [hrv] at hno2
      refine oneC (i := 11) (by kernel_rfl) rfl (fun K hK => ?_)
      go_simp
      refine CallsIn.mono (callsIn_wide.2 hno2) ?_
      rintro e w7 ⟨A7, n7, c7, l7, rfl, hi7, hr7, hb7⟩
      have hB7 : Below (World.heap w3.drew).size w3.drew w7 := hB6.trans (hb7.mono hB6.size)
      have ky7 := ky.kept hB7
      refine hK _ _ (.inr ky7.facts2.1.1) ?_
      clear hK K
      have j2 := k2.kept hB7; have j3 := k3.kept hB7
      have hl3 := x3.lt
      obtain ⟨⟨m0, m1⟩, m2, m3⟩ := j2.facts2
      obtain ⟨⟨p0, p1⟩, p2, p3⟩ := j3.facts2
      refine oneC (i := 12) (by kernel_rfl) rfl (fun K hK => ?_)
      go_simp
      have ky8 := (ky7.other (p := ⟨w.heap.size + 1 + 1, 0, none⟩) (by simp; omega) (.bool (decide (qv < 0)))).other (p := ⟨w.heap.size + 1 + 1, 1, none⟩) (by simp; omega) (.slice A6 n6 c6)
      refine hK _ _ (.inr ky8.facts2.1.1) ?_
      clear hK K
      refine oneC (i := 13) (by kernel_rfl) rfl (fun K hK => ?_)
      go_simp
      have ky9 := (ky8.other (p := ⟨w.heap.size + 1 + 1 + 1, 0, none⟩) (by simp; omega) (.bool (decide (rv < 0)))).other (p := ⟨w.heap.size + 1 + 1 + 1, 1, none⟩) (by simp; omega) (.slice A7 n7 c7)
      refine hK _ _ (.inr ky9.facts2.1.1) ?_
      clear hK K
      refine oneC (i := 14) (by kernel_rfl) rfl (fun K hK => ?_)
      go_simp
      refine hK _ _ (.inr ky9.facts2.1.1) ?_
      clear hK K
      refine doneP (by kernel_rfl) ?_
      obtain ⟨y2, y3⟩ := put22_box j2 j3 (by omega) (.bool (decide (qv < 0))) (.slice A6 n6 c6) (.bool (decide (rv < 0))) (.slice A7 n7 c7)
      obtain ⟨⟨m0, m1⟩, _, _⟩ := y2.facts2
      obtain ⟨⟨p0, p1⟩, _, _⟩ := y3.facts2
      unfold put22 at m0 m1 p0 p1
      go_wp2
      refine bodyPost_ret (v := .tuple #[.agg #[.bool (decide (qv < 0)), .slice A6 n6 c6], .agg #[.bool (decide (rv < 0)), .slice A7 n7 c7], .int .i64 0]) (by simp [results, Try.results10, go_sem, m0, m1, p0, p1]) rfl ?_
      have hmath := floor_even v v' hz hs' hr0
      rw [← hiq.val, ← hir.val] at hmath
      rw [show sg true (val lq) = qv from hqv, show sg (decide (v' < 0)) (val lr) = rv from hrv] at hmath
      have hBf := hB0.trans ((hB4.drew.trans (hB7.mono hB4.drew.size)).mono hB0.size)
      exact ⟨qv, rv, A6, n6, c6, l6, A7, n7, c7, l7, rfl, hmath.1, hmath.2, hi6, put22_rd j2 j3 (by omega) _ _ _ _ (hr6.below hb7), hi7, put22_rd j2 j3 (by omega) _ _ _ _ hr7, put22_below hBf (by omega) (by omega) _ _ _ _⟩
    · have hr0 : 0 < v.natAbs % v'.natAbs := by omega
      have hle5 : val lr ≤ val ly := by rw [hir.val, hiy.val]; exact Nat.le_of_lt (Nat.mod_lt _ (by omega))
      have hW1 : Below w3.heap.size w3 ((w3.drew.alloc (.cells #[.int .u32 1] 53)).alloc (.cells #[.slice Aq nq cq, .slice (some ⟨w3.heap.size, 0, none⟩) 1 1] 23)) := (((Below.refl _ w3).drew).alloc (Nat.le_refl _) _).alloc (by simp) _
      have hds : Rds ((w3.drew.alloc (.cells #[.int .u32 1] 53)).alloc (.cells #[.slice Aq nq cq, .slice (some ⟨w3.heap.size, 0, none⟩) 1 1] 23)) (some ⟨w3.heap.size + 1, 0, none⟩) 2 [lq, [1]] := by
        have := Rds.two ((hrq.drew).alloc (.cells #[.int .u32 1] 53)) hiq.lt (by omega) (Rd.one w3.drew 1 53) (by intro x hx; simp at hx; subst hx; decide) (by omega) 23
        rwa [World.size_alloc] at this
      go_wp2_with (first | go_region | (go_at_call 37; refine (add_any _ 2 2 _ _ hds (by omega)).mono ?_; rintro e w4 ⟨A4, n4, c4, l4, rfl, hi4, hr4, hb4⟩; have hB34 := hW1.trans (hb4.mono hW1.size); have hby4 := hby3.kept hB34; obtain ⟨⟨s0, s1⟩, _, _⟩ := hby4.facts2) | (go_at_call 38; refine (sub_any Ay ny cy ly Ar nr cr lr w4 ((hry.below hB3).below hB34) (hrr.below hB34) hiy.lt hir.lt hle5 (by omega) (by omega)).mono ?_; rw [hiy.val, hir.val]; rintro e w5 ⟨A5, n5, c5, l5, rfl, hi5, hr5, hb5⟩))
      have hB35 := hB34.trans (hb5.mono hB34.size)
      have hv4 : val l4 = v.natAbs / v'.natAbs + 1 := by rw [hi4.val]; simp only [List.map_cons, List.map_nil, List.sum_cons, List.sum_nil, hiq.val]; rfl
      have hn4 : n4 ≤ m + 1 := by
        rw [← hr4.len]
        refine hi4.len ?_
        rw [← hi4.val, hv4]
        have e1 : v.natAbs < BB ^ m := by rw [← hv]; exact iv_bound ht h.len hl
        have e2 := Nat.div_le_self v.natAbs v'.natAbs
        rw [Nat.pow_succ]
        unfold BB at *
        omega
      have hn5 : n5 ≤ m := by rw [← hr5.len]; exact hi5.len (Nat.lt_of_le_of_lt (Nat.sub_le _ _) (by rw [← hv']; exact iv_bound ht' h'.len hl'))
      have ky := hby3.kept hB35
      have k2 := x2.kept (hB4.trans (hB35.mono hB4.size)); have k3 := x3.kept (hB4.trans (hB35.mono hB4.size))
      refine (wpIn_wide (n := 0)).1 ?_
      refine wpIn_region_C 100 (fun W => W.cell? ⟨By, 0, none⟩ = some (.bool (decide (v' < 0)))) hmix ?_
      have d6 : (World.drew w5).cell? ⟨By, 0, none⟩ = some (.bool (decide (v' < 0))) := ky.facts2.1.1
      refine takeC (i := 0) (v := ?vv61) (by kernel_rfl) (by kernel_rfl) rfl (by kernel_rfl) (by kernel_rfl) (by kernel_rfl) (fun _ _ _ h => h) d6 ⟨.inl ⟨rfl, ?yy61⟩, fun _ => rfl⟩ ?_
      case yy61 =>
        rintro wx q1
        go_simp
        first | done | rfl
      refine takeC (i := 1) (v := ?vv62) (by kernel_rfl) (by kernel_rfl) rfl (by kernel_rfl) (by kernel_rfl) (by kernel_rfl) (fun _ _ _ h => h) d6 ⟨.inl ⟨rfl, ?yy62⟩, fun _ => rfl⟩ ?_
      case yy62 =>
        rintro wx q1
        go_simp
        first | done | rfl
      refine takeC (i := 2) (v := ?vv63) (by kernel_rfl) (by kernel_rfl) rfl (by kernel_rfl) (by kernel_rfl) (by kernel_rfl) (fun _ _ _ h => h) d6 ⟨.inl ⟨rfl, ?yy63⟩, fun _ => rfl⟩ ?_
      case yy63 =>
        rintro wx q1
        go_simp
        first | done | rfl
      refine takeC (i := 4) (v := ?vv64) (by kernel_rfl) (by kernel_rfl) rfl (by kernel_rfl) (by kernel_rfl) (by kernel_rfl) (fun _ _ _ h => h) d6 ⟨.inl ⟨rfl, ?yy64⟩, fun _ => rfl⟩ ?_
      case yy64 =>
        rintro wx q1
        go_simp
        first | done | rfl
      refine takeC (i := 5) (v := ?vv65) (by kernel_rfl) (by kernel_rfl) rfl (by kernel_rfl) (by kernel_rfl) (by kernel_rfl) (fun _ _ _ h => h) d6 ⟨.inl ⟨rfl, ?yy65⟩, fun _ => rfl⟩ ?_
      case yy65 =>
        rintro wx q1
        go_simp
        first | done | rfl
      refine takeC (i := 6) (v := ?vv66) (by kernel_rfl) (by kernel_rfl) rfl (by kernel_rfl) (by kernel_rfl) (by kernel_rfl) (fun _ _ _ h => h) d6 ⟨.inl ⟨rfl, ?yy66⟩, fun _ => rfl⟩ ?_
      case yy66 =>
        rintro wx q1
        go_simp
        first | done | rfl
      refine takeC (i := 7) (v := ?vv67) (by kernel_rfl) (by kernel_rfl) rfl (by kernel_rfl) (by kernel_rfl) (by kernel_rfl) (fun _ _ _ h => h) d6 ⟨.inl ⟨rfl, ?yy67⟩, fun _ => rfl⟩ ?_
      case yy67 =>
        rintro wx q1
        go_simp
        first | done | rfl
      refine takeC (i := 8) (v := ?vv68) (by kernel_rfl) (by kernel_rfl) rfl (by kernel_rfl) (by kernel_rfl) (by kernel_rfl) (fun _ _ _ h => h) d6 ⟨.inl ⟨rfl, ?yy68⟩, fun _ => rfl⟩ ?_
      case yy68 =>
        rintro wx q1
        go_simp
        first | done | rfl
      refine takeC (i := 9) (v := ?vv69) (by kernel_rfl) (by kernel_rfl) rfl (by kernel_rfl) (by kernel_rfl) (by kernel_rfl) (fun _ _ _ h => h) d6 ⟨.inl ⟨rfl, ?yy69⟩, fun _ => rfl⟩ ?_
      case yy69 =>
        rintro wx q1
        go_simp
        first | done | rfl
      refine takeC (i := 10) (v := ?vv70) (by kernel_rfl) (by kernel_rfl) rfl (by kernel_rfl) (by kernel_rfl) (by kernel_rfl) (fun _ _ _ h => h) d6 ⟨.inl ⟨rfl, ?yy70⟩, fun _ => rfl⟩ ?_
      case yy70 =>
        rintro wx q1
        go_simp
        first | done | rfl
      have hno1 := snorm_any true A4 n4 c4 l4 _ (Rd.drew (hr4.below hb5)) hi4.lt (by omega)
      obtain ⟨qv, hqv⟩ : ∃ qv, iv true l4 = qv := ⟨_, rfl⟩
      rw [hqv] at hno1
      refine oneC (i := 3) (by kernel_rfl) rfl (fun K hK => ?_)
      go_simp
      refine CallsIn.mono (callsIn_wide.2 hno1) ?_
      rintro e w6 ⟨A6, n6, c6, l6, rfl, hi6, hr6, hb6⟩
      have hB6 : Below (World.heap w5).size w5 w6 := ((Below.refl _ _).drew).trans hb6
      have d7 : w6.cell? ⟨By, 0, none⟩ = some (.bool (decide (v' < 0))) := (ky.kept hB6).facts2.1.1
      refine hK _ _ (.inr d7) ?_
      clear hK K
      have hno2 := snorm_any (decide (v' < 0)) A5 n5 c5 l5 _ (Rd.below hr5 hB6) hi5.lt (by omega)
      obtain ⟨rv, hrv⟩ : ∃ rv, iv (decide (v' < 0)) l5 = rv := ⟨_, rfl⟩
      rw [hrv] at hno2
      refine oneC (i := 11) (by kernel_rfl) rfl (fun K hK => ?_)
      go_simp
      refine CallsIn.mono (callsIn_wide.2 hno2) ?_
      rintro e w7 ⟨A7, n7, c7, l7, rfl, hi7, hr7, hb7⟩
      have hB7 : Below (World.heap w5).size w5 w7 := hB6.trans (hb7.mono hB6.size)
      have ky7 := ky.kept hB7
      refine hK _ _ (.inr ky7.facts2.1.1) ?_
      clear hK K
      have j2 := k2.kept hB7; have j3 := k3.kept hB7
      have hl3 := x3.lt
      obtain ⟨⟨m0, m1⟩, m2, m3⟩ := j2.facts2
      obtain ⟨⟨p0, p1⟩, p2, p3⟩ := j3.facts2
      refine oneC (i := 12) (by kernel_rfl) rfl (fun K hK => ?_)
      go_simp
      have ky8 := (ky7.other (p := ⟨w.heap.size + 1 + 1, 0, none⟩) (by simp; omega) (.bool (decide (qv < 0)))).other (p := ⟨w.heap.size + 1 + 1, 1, none⟩) (by simp; omega) (.slice A6 n6 c6)
      refine hK _ _ (.inr ky8.facts2.1.1) ?_
      clear hK K
      refine oneC (i := 13) (by kernel_rfl) rfl (fun K hK => ?_)
      go_simp
      have ky9 := (ky8.other (p := ⟨w.heap.size + 1 + 1 + 1, 0, none⟩) (by simp; omega) (.bool (decide (rv < 0)))).other (p := ⟨w.heap.size + 1 + 1 + 1, 1, none⟩) (by simp; omega) (.slice A7 n7 c7)
      refine hK _ _ (.inr ky9.facts2.1.1) ?_
      clear hK K
      refine oneC (i := 14) (by kernel_rfl) rfl (fun K hK => ?_)
      go_simp
      refine hK _ _ (.inr ky9.facts2.1.1) ?_
      clear hK K
      refine doneP (by kernel_rfl) ?_
      obtain ⟨y2, y3⟩ := put22_box j2 j3 (by omega) (.bool (decide (qv < 0))) (.slice A6 n6 c6) (.bool (decide (rv < 0))) (.slice A7 n7 c7)
      obtain ⟨⟨m0, m1⟩, _, _⟩ := y2.facts2
      obtain ⟨⟨p0, p1⟩, _, _⟩ := y3.facts2
      unfold put22 at m0 m1 p0 p1
      go_wp2
      refine bodyPost_ret (v := .tuple #[.agg #[.bool (decide (qv < 0)), .slice A6 n6 c6], .agg #[.bool (decide (rv < 0)), .slice A7 n7 c7], .int .i64 0]) (by simp [results, Try.results10, go_sem, m0, m1, p0, p1]) rfl ?_
      have hmath := floor_down v v' hz hs' hr0
      rw [← hv4, ← hi5.val] at hmath
      rw [show sg true (val l4) = qv from hqv, show sg (decide (v' < 0)) (val l5) = rv from hrv] at hmath
      have hBf := hB0.trans (((hB4.trans (hB35.mono hB4.size)).trans (hB7.mono (hB4.trans (hB35.mono hB4.size)).size)).mono hB0.size)
      exact ⟨qv, rv, A6, n6, c6, l6, A7, n7, c7, l7, rfl, hmath.1, hmath.2, hi6, put22_rd j2 j3 (by omega) _ _ _ _ (hr6.below hb7), hi7, put22_rd j2 j3 (by omega) _ _ _ _ hr7, put22_below hBf (by omega) (by omega) _ _ _ _⟩
end Go.Proofs.Wd
