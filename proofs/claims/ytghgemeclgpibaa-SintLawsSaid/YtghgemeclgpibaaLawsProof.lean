/- strait/straitlaw05.SintLaws returns true at every input, and its arguments read as before. No condition. -/
import Derived.Test.YtghgemeclgpibaaArgs
import Derived.Test.YtghgemeclgpibaaLaw5F
namespace Go.Proofs.Ytghgemeclgpibaa
open Go.ChangeShapes Go.WideShapes Go.ChangeAt Go.RowKit Go.Proofs.Wd

set_option maxRecDepth 100000 in
theorem laws_lifted (os : Os) (started : os.Started) (H : Type) (enc : TypeId × Value → H) :
    ReturnsInHanded {} Try.checked os 5 .any (Rows.sintLawsSpec.pre6 enc Try.prog Try.f5 Rows.sintLawsRow.domain false) (Rows.sintLawsSpec.post enc Try.prog Try.f5 false true false false) := by
  refine returnsInHanded_of_change (C := Try.checked) Try_own started (by kernel_rfl) Try.func5
    (ChangeSpec.witness6 (enc := enc) (C := Try.checked) false ⟨#[], #[.agg #[.bool false, .slice none 0 0], .agg #[.bool false, .slice none 0 0], .agg #[.bool false, .slice none 0 0]], []⟩ 8 (by kernel_rfl) (by kernel_rfl) (by kernel_rfl) (by kernel_rfl)) ?_
  intro W base args ds gs before hval0 hW _ _
  have hval : ∀ (j : Nat) t v, Try.f5.params[j]? = some t → args[j]? = some v → Value.okWide Try.prog W .any base t v := hval0
  have hW' := hW
  obtain ⟨p, q, hA0, hV, rfl, hfz, hnd⟩ := hW
  have hA : DataW.TrodAll enc Try.prog W 0 (fun _ => true) true Try.f5.params.toList args.toList ds p := hA0
  rw [Try.params5] at hA hval
  obtain ⟨v0, v1, v2, d0, d1, d2, p0, p1, p2, rfl, rfl, rfl, h0, h1, h2⟩ := trodAll_three hA
  obtain ⟨rfl, rfl⟩ := trodVars_none hV
  obtain ⟨s, A, n, c, l, rfl, r1, t1⟩ := int_arg (hval 0 25 _ rfl rfl) h0
  obtain ⟨s', A', n', c', l', rfl, r2, t2⟩ := int_arg (hval 1 25 _ rfl rfl) h1
  obtain ⟨s'', A'', n'', c'', l'', rfl, r3, t3⟩ := int_arg (hval 2 25 _ rfl rfl) h2
  clear hA0 hval0
  simp only [List.append_nil, List.append_assoc] at hW'
  have hlt : ∀ x ∈ p0 ++ (p1 ++ p2), x.block < W.heap.size := fun x hx => hW'.lt x (by simpa using hx)
  have hargs : ∀ {W' : World} {v : Value} {d : DataW H} {p : List MemPlace}, Below W.heap.size W W' → (∀ x ∈ p, x.block < W.heap.size) → DataW.Trod enc Try.prog W 0 (fun _ => true) true 25 v d p → DataW.Trod enc Try.prog W' 0 (fun b => decide (b < W.heap.size)) true 25 v d p :=
    fun hn hl ht => Below.trod Try_laid (by kernel_rfl) (of_decide_eq_true (by kernel_rfl)) ht hn hl
  refine (laws_any s A n c l s' A' n' c' l' s'' A'' n'' c'' l'' W r1 t1 r2 t2 r3 t3).mono fun e W' ⟨he, hw⟩ => ?_
  subst he
  exact ⟨_, rfl, ⟨[d0, d1, d2], [], p0 ++ (p1 ++ p2), [], p0 ++ (p1 ++ p2), [], hW', trodAll_mk1 (shut_bool Try.underlying4 true),
    trodAll_mk3 (hargs hw (fun x hx => hlt x (by simp [hx])) h0) (hargs hw (fun x hx => hlt x (by simp [hx])) h1) (hargs hw (fun x hx => hlt x (by simp [hx])) h2), rfl, hw.frame _, fun h => by cases h⟩⟩

theorem laws_holds : Rows.SintLawsSaid :=
  OpenClaim.holds_of_wide 5 Try.f5 rfl rfl rfl rfl rfl rfl rfl ⟨rfl, rfl, rfl, rfl, rfl⟩ rfl rfl rfl rfl rfl (by kernel_rfl) Try.func5 (by kernel_rfl)
    (of_decide_eq_true (by kernel_rfl)) (by unfold Func.isWrapper; first | (rw [if_pos (by decide +kernel)]; kernel_rfl) | (rw [if_neg (by decide +kernel)]; exact ⟨rfl, rfl⟩))
    (fun os started H enc _ => laws_lifted os started H enc)
end Go.Proofs.Ytghgemeclgpibaa
