/- A tied card's argument that is a list of rationals and what it needs. -/
import Derived.Test.YtghgemeclgpibaaGreatDoorMQT23
import Derived.Deep.Slices
namespace Go.Proofs.YtghgemeclgpibaaGreatDoor
open Go.ChangeShapes Go.WideShapes Go.ChangeAt Go.RowKit Go.Proofs.Wd Lb
section
variable {H : Type} {enc : TypeId × Value → H} {w : World} {base : Nat} {held : Bool}
set_option maxRecDepth 100000 in
theorem rat_cells {fuel : Nat} {cs : List Value} {x : DataW H × List MemPlace} (hl : cs.length = 3) (h : DataW.trod enc Tryz.prog w base (fun _ => true) held fuel 27 cs = some x) : ∃ y : QX, (QX.cu y).p cs w ∧ y.n + y.n' ≤ Rows.uptoBulk x.1 := by
  obtain ⟨c0, c1, c2, rfl⟩ : ∃ c0 c1 c2, cs = [c0, c1, c2] := by
    match cs, hl with
    | [c0, c1, c2], _ => exact ⟨c0, c1, c2, rfl⟩
  obtain ⟨y0, y1, n, hx, _, h0, h1⟩ := trod_struct2 Tryz.underlying27 h
  have hI : Tryz.prog.cellsOf 25 = 2 := by kernel_rfl
  have hN : Tryz.prog.cellsOf 23 = 1 := by kernel_rfl
  have hB : Tryz.prog.cellsOf 4 = 1 := by kernel_rfl
  simp only [hI, hN, List.drop_zero, List.drop_succ_cons, List.take_succ_cons, List.take_zero] at h0 h1
  obtain ⟨z0, z1, m, hx0, _, g0, g1⟩ := trod_struct2 Tryz.underlying25 h0
  simp only [hB, hN, List.drop_zero, List.drop_succ_cons, List.take_succ_cons, List.take_zero] at g0 g1
  obtain ⟨s, hs, _⟩ := DataW.trod_bool Tryz.underlying4 g0
  obtain rfl : c0 = .bool s := by simpa using hs
  obtain ⟨A, k, c, l, rfl, r1, r2, r3⟩ := nat_cellB g1
  obtain ⟨A', k', c', l', rfl, r1', r2', r3'⟩ := nat_cellB h1
  refine ⟨⟨k, k', iv s l, val l'⟩, ⟨_, _, _, rfl, ⟨s, A, c, l, rfl, r1, r2, rfl⟩, A', c', l', rfl, r1', r2', rfl⟩, ?_⟩
  subst hx
  subst hx0
  show k + k' ≤ Rows.uptoBulk (.agg [.agg [z0.1, z1.1], y1.1])
  simp only [Rows.uptoBulk, Rows.uptoBulkAll]
  omega
set_option maxRecDepth 100000 in
theorem rats_arg {r : Reach} {b0 : Nat} {v : Value} {d : DataW H} {p : List MemPlace} (hv : Value.okWide Tryz.prog w r b0 44 v) (h : DataW.Trod enc Tryz.prog w base (fun _ => true) held 44 v d p) : ∃ L : List QX, (SF.row 3 (L.map QX.cu)).p v w ∧ ∀ x, x ∈ L → x.n + x.n' ≤ Rows.uptoBulk d := by
  obtain ⟨a, len, cap, rfl⟩ := okWide_slice Tryz.underlying44 hv
  obtain ⟨fuel, h⟩ := h
  rcases Go.Deep.open_slice Tryz.underlying44 h with ⟨hcs, _⟩ | ⟨a', len', cap', m, n, D, Pl, hcs, _, hl, hm, hmm, hxx, hx⟩
  · cases hcs
    exact ⟨[], ⟨none, 0, rfl, Nat.le_refl _, by omega, fun _ => rfl, fun i C hi => by simp at hi⟩, fun x hx => by cases hx⟩
  · cases hcs
    simp only [if_true] at hmm
    have hC : Tryz.prog.cellsOf 27 = 3 := by kernel_rfl
    rw [hC] at hx
    have each : ∀ i, i < len → ∃ y : QX × List Value, w.cells? base (a'.add (i * 3)) 3 = some y.2 ∧ (QX.cu y.1).p y.2 w ∧ y.1.n + y.1.n' ≤ Rows.uptoBulk (D i) := fun i hi => by
      obtain ⟨cs, h1, h2⟩ := hx i (by omega)
      obtain ⟨_, h3, _⟩ := World.cells?_some h1
      obtain ⟨y, h4, h5⟩ := rat_cells h3 h2
      exact ⟨(y, cs), h1, h4, h5⟩
    haveI : Inhabited QX := ⟨⟨0, 0, 0, 0⟩⟩
    obtain ⟨y, hy⟩ := Go.Deep.choose_lt each
    refine ⟨(List.range len).map fun i => (y i).1, ⟨some a', cap, by simp, by simpa using hl, by unfold maxLen at hm; omega, fun e => (by cases e), fun i C hi => ?_⟩, fun x hx' => ?_⟩
    · have hlt : i < len := by
        have := (List.getElem?_eq_some_iff.1 hi).1
        simpa using this
      obtain rfl : QX.cu (y i).1 = C := by simpa [hlt] using hi
      obtain ⟨h1, h2, h3⟩ := hy i hlt
      obtain ⟨_, h4, h5⟩ := World.cells?_some h1
      obtain ⟨b, off, spot⟩ := a'
      have h6 : spot = none := by
        obtain ⟨_, q4, q5⟩ := World.cells?_some (hy 0 (by omega)).1
        have h7 := q5 0 (by omega)
        rw [List.getElem?_eq_getElem (by omega)] at h7
        simpa [Addr.add] using World.cell?_spot h7
      subst h6
      refine ⟨b, off, (y i).2, rfl, fun j u hj => ?_, h2⟩
      have h7 := h5 j (by have := (List.getElem?_eq_some_iff.1 hj).1; omega)
      rw [hj, Addr.add_lit, Addr.add_lit] at h7
      exact h7
    · obtain ⟨i, hi, rfl⟩ := List.mem_map.1 hx'
      have hlt := List.mem_range.1 hi
      have h3 := (hy i hlt).2.2
      have h4 : Rows.uptoBulk (D i) ≤ Rows.uptoBulkAll ((List.range len).map D) := bk_part (List.mem_map.2 ⟨i, hi, rfl⟩)
      simp only [Prod.mk.injEq] at hxx
      rw [hxx.1]
      simp only [Rows.uptoBulk]
      omega
end
end Go.Proofs.YtghgemeclgpibaaGreatDoor

