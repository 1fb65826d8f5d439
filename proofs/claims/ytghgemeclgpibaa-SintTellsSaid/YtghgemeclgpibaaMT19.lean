/- strait/straitlaw05.SintTells returns true at every input, and its arguments read as before. No condition. -/
import Derived.Test.YtghgemeclgpibaaMT11
import Derived.Test.YtghgemeclgpibaaMT18
import Derived.Deep.SlicePairs
import Derived.Carry
namespace Go.Proofs.Ytghgemeclgpibaa
open Go.ChangeShapes Go.WideShapes Go.ChangeAt Go.RowKit Go.Proofs.Wd Lb

section
variable {H : Type} {enc : TypeId × Value → H} {w : World} {base : Nat} {held : Bool}
/-- An argument that is a list of integers. -/
theorem ints_arg {r : Reach} {b0 : Nat} {v : Value} {d : DataW H} {p : List MemPlace} (hv : Value.okWide Try.prog w r b0 44 v) (h : DataW.Trod enc Try.prog w base (fun _ => true) held 44 v d p) : ∃ A n c is, v = .slice A n c ∧ n ≤ c ∧ c ≤ 9223372036854775807 ∧ IRdM 9223372036854775807 w A n is := by
  obtain ⟨a, len, cap, rfl⟩ := okWide_slice Try.underlying44 hv
  obtain ⟨fuel, h⟩ := h
  rcases Go.Deep.open_slice_pairs Try.underlying44 Try.underlying25 (by kernel_rfl) rfl rfl (by kernel_rfl) (by kernel_rfl) h with ⟨hcs, _⟩ | ⟨a', len', cap', m, n, V0, V1, D0, D1, P0, P1, hcs, _, hl, hm, hmm, _, hx⟩
  · cases hcs
    exact ⟨none, 0, 0, [], rfl, Nat.le_refl _, by omega, rfl, fun i hi => by omega⟩
  · cases hcs
    simp only [if_true] at hmm
    have each : ∀ i, i < cap → ∃ y : Bool × Option Addr × Nat × Nat × List Nat, V0 i = .bool y.1 ∧ V1 i = .slice y.2.1 y.2.2.1 y.2.2.2.1 ∧ Rd w y.2.1 y.2.2.1 y.2.2.2.1 y.2.2.2.2 ∧ Lt y.2.2.2.2 := fun i hi => by
      obtain ⟨_, _, h0, h1⟩ := hx i (by omega)
      obtain ⟨s, hs, _⟩ := DataW.trod_bool Try.underlying4 h0
      obtain ⟨A, k, c, l, e, h1, h2⟩ := nat_cell h1
      exact ⟨(s, A, k, c, l), by simpa using hs, e, h1, h2⟩
    obtain ⟨y, hy⟩ := Go.Deep.choose_lt each
    refine ⟨some a', len, cap, (List.range len).map fun i => ((y i).1, (y i).2.2.2.2), rfl, hl, by unfold maxLen at hm; omega, by simp, fun i hi => ?_⟩
    obtain ⟨b, off, spot⟩ := a'
    have hc := (hx i (by omega)).1; have hc1 := (hx i (by omega)).2.1
    have hspot : spot = none := by
      have := World.cell?_spot (hx 0 (by omega)).1
      simpa [Addr.add] using this
    subst hspot
    obtain ⟨e0, e1, e2, e3⟩ := hy i (by omega)
    rw [Addr.add_lit, e0] at hc
    rw [Addr.add_lit, e1] at hc1
    have e4 : off + 2 * i = off + i * 2 := by omega
    refine ⟨b, off, (y i).1, (y i).2.1, (y i).2.2.1, (y i).2.2.2.1, (y i).2.2.2.2, rfl, ?_, ?_, by simp [hi], e2, e3, Nat.le_trans e2.le e2.cap⟩
    · first | exact hc | (rw [e4]; exact hc)
    · first | exact hc1 | (rw [e4]; exact hc1)
end

set_option maxRecDepth 100000 in
theorem tells_lifted (os : Os) (started : os.Started) (H : Type) (enc : TypeId × Value → H) :
    ReturnsInHanded {} Try.checked os 7 .any (Rows.sintTellsSpec.pre6 enc Try.prog Try.f7 Rows.sintTellsRow.domain false) (Rows.sintTellsSpec.post enc Try.prog Try.f7 false true false false) := by
  refine returnsInHanded_of_change (C := Try.checked) Try_own started (by kernel_rfl) Try.func7
    (ChangeSpec.witness6 (enc := enc) (C := Try.checked) false ⟨#[], #[.agg #[.bool false, .slice none 0 0], .agg #[.bool false, .slice none 0 0], .slice none 0 0, .int .i64 0], []⟩ 8 (by kernel_rfl) (by kernel_rfl) (by kernel_rfl) (by kernel_rfl)) ?_
  intro W base args ds gs before hval0 hW _ _
  have hval : ∀ (j : Nat) t v, Try.f7.params[j]? = some t → args[j]? = some v → Value.okWide Try.prog W .any base t v := hval0
  have hW' := hW
  obtain ⟨p, q, hA0, hV, rfl, hfz, hnd⟩ := hW
  have hA : DataW.TrodAll enc Try.prog W 0 (fun _ => true) true Try.f7.params.toList args.toList ds p := hA0
  rw [Try.params7] at hA hval
  obtain ⟨v0, v1, v2, v3, d0, d1, d2, d3, p0, p1, p2, p3, rfl, rfl, rfl, h0, h1, h2, h3⟩ := trodAll_four hA
  obtain ⟨rfl, rfl⟩ := trodVars_none hV
  obtain ⟨s, A, n, c, l, rfl, r1, t1⟩ := int_arg (hval 0 25 _ rfl rfl) h0
  obtain ⟨s', A', n', c', l', rfl, r2, t2⟩ := int_arg (hval 1 25 _ rfl rfl) h1
  obtain ⟨A2, n2, c2, is, rfl, r3⟩ := ints_arg (hval 2 44 _ rfl rfl) h2
  obtain ⟨z, rfl, e2, f2, g2⟩ := open_int Try.underlying3 (hval 3 3 _ rfl rfl) h3
  clear hA0 hval0
  simp only [List.append_nil, List.append_assoc] at hW'
  have hlt : ∀ x ∈ p0 ++ (p1 ++ (p2 ++ p3)), x.block < W.heap.size := fun x hx => hW'.lt x (by simpa using hx)
  have hargs : ∀ {W' : World} {v : Value} {d : DataW H} {p : List MemPlace}, Below W.heap.size W W' → (∀ x ∈ p, x.block < W.heap.size) → DataW.Trod enc Try.prog W 0 (fun _ => true) true 25 v d p → DataW.Trod enc Try.prog W' 0 (fun b => decide (b < W.heap.size)) true 25 v d p :=
    fun hn hl ht => Below.trod Try_laid (by kernel_rfl) (of_decide_eq_true (by kernel_rfl)) ht hn hl
  have hargs2 : ∀ {W' : World} {v : Value} {d : DataW H} {p : List MemPlace}, Below W.heap.size W W' → (∀ x ∈ p, x.block < W.heap.size) → DataW.Trod enc Try.prog W 0 (fun _ => true) true 44 v d p → DataW.Trod enc Try.prog W' 0 (fun b => decide (b < W.heap.size)) true 44 v d p :=
    fun hn hl ht => Below.trod Try_laid (by kernel_rfl) (of_decide_eq_true (by kernel_rfl)) ht hn hl
  have hargs3 : ∀ {W' : World} {v : Value} {d : DataW H} {p : List MemPlace}, Below W.heap.size W W' → (∀ x ∈ p, x.block < W.heap.size) → DataW.Trod enc Try.prog W 0 (fun _ => true) true 3 v d p → DataW.Trod enc Try.prog W' 0 (fun b => decide (b < W.heap.size)) true 3 v d p :=
    fun hn hl ht => Below.trod Try_laid (by kernel_rfl) (of_decide_eq_true (by kernel_rfl)) ht hn hl
  have wf : ∀ z : Int, (Lit.int .i64 z).wf = true → -9223372036854775808 ≤ z ∧ z ≤ 9223372036854775807 := fun z h => by simp [Lit.wf, IntKind.min, IntKind.max, IntKind.signed, IntKind.bits] at h; omega
  refine (tells5_any s A n c l s' A' n' c' l' A2 n2 c2 is z W r1 t1 r2 t2 r3 (wf z g2)).mono fun e W' ⟨he, hw⟩ => ?_
  subst he
  exact ⟨_, rfl, ⟨[d0, d1, d2, d3], [], p0 ++ (p1 ++ (p2 ++ p3)), [], p0 ++ (p1 ++ (p2 ++ p3)), [], hW', trodAll_mk1 (shut_bool Try.underlying4 true),
    trodAll_mk4 (hargs hw (fun x hx => hlt x (by simp [hx])) h0) (hargs hw (fun x hx => hlt x (by simp [hx])) h1) (hargs2 hw (fun x hx => hlt x (by simp [hx])) h2) (hargs3 hw (fun x hx => hlt x (by simp [hx])) h3), rfl, hw.frame _, fun h => by cases h⟩⟩

theorem tells_holds : Rows.SintTellsSaid :=
  OpenClaim.holds_of_wide 7 Try.f7 rfl rfl rfl rfl rfl rfl rfl ⟨rfl, rfl, rfl, rfl, rfl⟩ rfl rfl rfl rfl rfl (by kernel_rfl) Try.func7 (by kernel_rfl)
    (of_decide_eq_true (by kernel_rfl)) (by unfold Func.isWrapper; first | (rw [if_pos (by decide +kernel)]; kernel_rfl) | (rw [if_neg (by decide +kernel)]; exact ⟨rfl, rfl⟩))
    (fun os started H enc _ => tells_lifted os started H enc)
end Go.Proofs.Ytghgemeclgpibaa
