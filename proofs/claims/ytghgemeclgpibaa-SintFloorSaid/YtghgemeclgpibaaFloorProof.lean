/- strait/straitlaw05.SintFloor returns true at every input, and its arguments read as before. No condition. -/
import Derived.Test.YtghgemeclgpibaaArgs
import Derived.Test.YtghgemeclgpibaaLaw5E
namespace Go.Proofs.Ytghgemeclgpibaa
open Go.ChangeShapes Go.WideShapes Go.ChangeAt Go.RowKit Go.Proofs.Wd

set_option maxRecDepth 100000 in
theorem floor_lifted (os : Os) (started : os.Started) (H : Type) (enc : TypeId × Value → H) :
    ReturnsInHanded {} Try.checked os 3 .any (Rows.sintFloorSpec.pre6 enc Try.prog Try.f3 Rows.sintFloorRow.domain false) (Rows.sintFloorSpec.post enc Try.prog Try.f3 false true false false) := by
  refine returnsInHanded_of_change (C := Try.checked) Try_own started (by kernel_rfl) Try.func3
    (ChangeSpec.witness6 (enc := enc) (C := Try.checked) false ⟨#[], #[.agg #[.bool false, .slice none 0 0], .agg #[.bool false, .slice none 0 0]], []⟩ 8 (by kernel_rfl) (by kernel_rfl) (by kernel_rfl) (by kernel_rfl)) ?_
  intro W base args ds gs before hval0 hW _ _
  have hval : ∀ (j : Nat) t v, Try.f3.params[j]? = some t → args[j]? = some v → Value.okWide Try.prog W .any base t v := hval0
  have hW' := hW
  obtain ⟨p, q, hA0, hV, rfl, hfz, hnd⟩ := hW
  have hA : DataW.TrodAll enc Try.prog W 0 (fun _ => true) true Try.f3.params.toList args.toList ds p := hA0
  rw [Try.params3] at hA hval
  obtain ⟨v0, v1, d0, d1, p0, p1, rfl, rfl, rfl, h0, h1⟩ := trodAll_two hA
  obtain ⟨rfl, rfl⟩ := trodVars_none hV
  obtain ⟨s, A, n, c, l, rfl, r1, t1⟩ := int_arg (hval 0 25 _ rfl rfl) h0
  obtain ⟨s', A', n', c', l', rfl, r2, t2⟩ := int_arg (hval 1 25 _ rfl rfl) h1
  clear hA0 hval0
  simp only [List.append_nil] at hW'
  have hlt : ∀ x ∈ p0 ++ p1, x.block < W.heap.size := fun x hx => hW'.lt x (by simpa using hx)
  have hargs : ∀ {W' : World} {v : Value} {d : DataW H} {p : List MemPlace}, Below W.heap.size W W' → (∀ x ∈ p, x.block < W.heap.size) → DataW.Trod enc Try.prog W 0 (fun _ => true) true 25 v d p → DataW.Trod enc Try.prog W' 0 (fun b => decide (b < W.heap.size)) true 25 v d p :=
    fun hn hl ht => Below.trod Try_laid (by kernel_rfl) (of_decide_eq_true (by kernel_rfl)) ht hn hl
  refine (floor_any s A n c l s' A' n' c' l' W r1 t1 r2 t2).mono fun e W' ⟨he, hw⟩ => ?_
  subst he
  exact ⟨_, rfl, ⟨[d0, d1], [], p0 ++ p1, [], p0 ++ p1, [], hW', trodAll_mk1 (shut_bool Try.underlying4 true),
    trodAll_mk2 (hargs hw (fun x hx => hlt x (by simp [hx])) h0) (hargs hw (fun x hx => hlt x (by simp [hx])) h1), rfl, hw.frame _, fun h => by cases h⟩⟩

theorem floor_holds : Rows.SintFloorSaid :=
  OpenClaim.holds_of_wide 3 Try.f3 rfl rfl rfl rfl rfl rfl rfl ⟨rfl, rfl, rfl, rfl, rfl⟩ rfl rfl rfl rfl rfl (by kernel_rfl) Try.func3 (by kernel_rfl)
    (of_decide_eq_true (by kernel_rfl)) (by unfold Func.isWrapper; first | (rw [if_pos (by decide +kernel)]; kernel_rfl) | (rw [if_neg (by decide +kernel)]; exact ⟨rfl, rfl⟩))
    (fun os started H enc _ => floor_lifted os started H enc)
end Go.Proofs.Ytghgemeclgpibaa
