/- strait/straitlaw04.GcdTells returns true at every input, and its arguments read as before; the tied card. -/
import Derived.Test.YtghgemeclgpibaaDoorMG19
import Derived.Test.YtghgemeclgpibaaDoorMU1
import Derived.Deep.Slices
namespace Go.Proofs.YtghgemeclgpibaaDoor
open Go.ChangeShapes Go.WideShapes Go.ChangeAt Go.RowKit Go.Proofs.Wd Lb
section
variable {H : Type} {enc : TypeId × Value → H} {w : World} {base : Nat} {held : Bool}
set_option maxRecDepth 100000 in
theorem nats_arg {r : Reach} {b0 : Nat} {v : Value} {d : DataW H} {p : List MemPlace} (hv : Value.okWide Tryd.prog w r b0 36 v) (h : DataW.Trod enc Tryd.prog w base (fun _ => true) held 36 v d p) : ∃ A n c ls, v = .slice A n c ∧ n ≤ c ∧ c ≤ 9223372036854775807 ∧ Nds w A n ls := by
  obtain ⟨a, len, cap, rfl⟩ := okWide_slice Tryd.underlying36 hv
  obtain ⟨fuel, h⟩ := h
  rcases Go.Deep.open_slice1 Tryd.underlying36 (by kernel_rfl) h with ⟨hcs, _⟩ | ⟨a', len', cap', m, n, V, D, Pl, hcs, _, hl, hm, hmm, _, hx⟩
  · cases hcs
    exact ⟨none, 0, 0, [], rfl, Nat.le_refl _, by omega, rfl, fun i hi => by omega⟩
  · cases hcs
    simp only [if_true] at hmm
    have each : ∀ i, i < cap → ∃ y : Option Addr × Nat × Nat × List Nat, V i = .slice y.1 y.2.1 y.2.2.1 ∧ Rd w y.1 y.2.1 y.2.2.1 y.2.2.2 ∧ Lt y.2.2.2 := fun i hi => by
      obtain ⟨A, k, c, l, e, h1, h2⟩ := nat_cell (hx i (by omega)).2
      exact ⟨(A, k, c, l), e, h1, h2⟩
    obtain ⟨y, hy⟩ := Go.Deep.choose_lt each
    refine ⟨some a', len, cap, (List.range len).map fun i => (y i).2.2.2, rfl, hl, by unfold maxLen at hm; omega, by simp, fun i hi => ?_⟩
    obtain ⟨b, off, spot⟩ := a'
    have hc := (hx i (by omega)).1
    have hspot : spot = none := by simpa [Addr.add] using World.cell?_spot (hx 0 (by omega)).1
    subst hspot
    rw [Addr.add_lit, (hy i (by omega)).1] at hc
    exact ⟨b, off, _, _, _, _, rfl, hc, by simp [hi], (hy i (by omega)).2.1, (hy i (by omega)).2.2⟩
end
end Go.Proofs.YtghgemeclgpibaaDoor

namespace Go.Proofs.YtghgemeclgpibaaDoor
open Go.ChangeShapes Go.WideShapes Go.ChangeAt Go.RowKit Go.Proofs.Wd

set_option maxRecDepth 100000 in
theorem gcdTells_lifted (os : Os) (started : os.Started) (H : Type) (enc : TypeId × Value → H) :
    ReturnsInHanded {} Tryd.checked os 6 .any (fun w args => (Rows.gcdTellsSpec.pre enc Tryd.prog Tryd.f6 [] false w args ∧ laidMetH Tryd.prog bitsLaid w) ∧ sizedMet enc Tryd.prog Tryd.f6 (OpenSpec.ofChange Rows.gcdTellsSpec) false w args)
      (Rows.gcdTellsSpec.post enc Tryd.prog Tryd.f6 false true false false) := by
  refine returnsInHanded_of_change_and (C := Tryd.checked) (X := fun w _ => laidMetH Tryd.prog bitsLaid w) (fun _ _ _ hh h => h.of_heap hh) Tryd_own started (by kernel_rfl) Tryd.func6
    (ChangeSpec.witness_shaped (enc := enc) (C := Tryd.checked) (os := os) (X := fun w _ => laidMetH Tryd.prog bitsLaid w) false (World.doorLaid Tryd.prog 400 os) #[.slice none 0 0, .slice none 0 0, .slice none 0 0] 8 rfl (World.shaped_of_RefB (by kernel_rfl) (by kernel_rfl)) (by kernel_rfl) (by kernel_rfl) (by kernel_rfl) (door_met os _)) ?_
  intro W base args ds gs before hval0 hW _ _ hL _
  have hval : ∀ (j : Nat) t v, Tryd.f6.params[j]? = some t → args[j]? = some v → Value.okWide Tryd.prog W .any base t v := hval0
  have hW' := hW
  obtain ⟨p, q, hA0, hV, rfl, hfz, hnd⟩ := hW
  have hA : DataW.TrodAll enc Tryd.prog W 0 (fun _ => true) true Tryd.f6.params.toList args.toList ds p := hA0
  rw [Tryd.params6] at hA hval
  obtain ⟨v0, v1, v2, d0, d1, d2, p0, p1, p2, rfl, rfl, rfl, h0, h1, h2⟩ := trodAll_three hA
  obtain ⟨rfl, rfl⟩ := trodVars_none hV
  obtain ⟨A0, n0, c0, l0, rfl, r0, t0⟩ := nat_arg (hval 0 23 _ rfl rfl) h0
  obtain ⟨A1, n1, c1, l1, rfl, r1, t1⟩ := nat_arg (hval 1 23 _ rfl rfl) h1
  obtain ⟨A2, n2, c2, l2, rfl, r2⟩ := nats_arg (hval 2 36 _ rfl rfl) h2
  have hT := tab_of_laid hL
  clear hA0 hval0
  simp only [List.append_nil, List.append_assoc] at hW'
  have hlt : ∀ x ∈ p0 ++ (p1 ++ p2), x.block < W.heap.size := fun x hx => hW'.lt x (by simpa using hx)
  have hargs : ∀ {W' : World} {t : TypeId} {v : Value} {d : DataW H} {p : List MemPlace}, Below W.heap.size W W' → (∀ x ∈ p, x.block < W.heap.size) → Tryd.prog.readableRec t = true → t < Tryd.prog.types.size → DataW.Trod enc Tryd.prog W 0 (fun _ => true) true t v d p → DataW.Trod enc Tryd.prog W' 0 (fun b => decide (b < W.heap.size)) true t v d p :=
    fun hn hl hr hs ht => Below.trod Tryd_laid hr hs ht hn hl
  refine (tells_any A0 n0 c0 l0 A1 n1 c1 l1 A2 n2 c2 l2 W r0 t0 r1 t1 r2 hT).mono fun e W' ⟨he, hw⟩ => ?_
  subst he
  exact ⟨_, rfl, ⟨[d0, d1, d2], [], p0 ++ (p1 ++ p2), [], p0 ++ (p1 ++ p2), [], hW', trodAll_mk1 (shut_bool Tryd.underlying4 true),
    trodAll_mk3 (hargs hw (fun x hx => hlt x (by simp [hx])) (by kernel_rfl) (of_decide_eq_true (by kernel_rfl)) h0) (hargs hw (fun x hx => hlt x (by simp [hx])) (by kernel_rfl) (of_decide_eq_true (by kernel_rfl)) h1) (hargs hw (fun x hx => hlt x (by simp [hx])) (by kernel_rfl) (of_decide_eq_true (by kernel_rfl)) h2), rfl, hw.frame _, fun h => by cases h⟩⟩

theorem gcdTells_holds : Rows.GcdTellsSaid :=
  OpenClaim.holds_of_wide 6 Tryd.f6 rfl rfl rfl rfl rfl rfl rfl ⟨rfl, rfl, rfl, rfl, rfl⟩ rfl rfl rfl rfl rfl (by kernel_rfl) Tryd.func6 (by kernel_rfl)
    (of_decide_eq_true (by kernel_rfl)) (by unfold Func.isWrapper; first | (rw [if_pos (by decide +kernel)]; kernel_rfl) | (rw [if_neg (by decide +kernel)]; exact ⟨rfl, rfl⟩))
    (fun os started H enc _ => gcdTells_lifted os started H enc)

theorem gcdTells_card : Rows.GcdTellsCardSaid :=
  Claim7.holds_tied_plain_at .later [] [.data] true _ false
    gcdTells_holds (fun _ h => by cases h) (by kernel_rfl) (fun _ h => by cases h) gcdTells_row_tie rfl ⟨rfl, rfl⟩ (by kernel_rfl) rfl
    (fun f fn hf hfn => by
      obtain rfl : f = 6 := Option.some.inj ((show Tryd.prog.funcNamed "strait/straitlaw04.GcdTells" = some 6 by kernel_rfl).symm.trans hf) |>.symm
      obtain rfl : fn = Tryd.f6 := (Option.some.inj (Tryd.func6.symm.trans hfn)).symm
      exact ⟨by kernel_rfl, fun j t ht => by
        rw [Tryd.params6] at ht
        have hm : t ∈ [23, 23, 36] := by simpa using Array.mem_of_getElem? ht
        have hall : ([23, 23, 36].all fun u => !Tryd.prog.wantsStandIn u) = true := by kernel_rfl
        exact (show Tryd.prog.wantsStandIn t = false by simpa using List.all_eq_true.1 hall t hm)⟩)
    (by kernel_rfl)
end Go.Proofs.YtghgemeclgpibaaDoor
