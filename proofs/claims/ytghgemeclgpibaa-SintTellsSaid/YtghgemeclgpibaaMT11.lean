/- A law's arguments, opened: limbs, integers; and what a call that only makes memory leaves of them. -/
import Derived.Test.YtghgemeclgpibaaRows
import Derived.Test.YtghgemeclgpibaaMT7
import Derived.ProofKit
import Derived.Lib.SmallJoins
namespace Go.Proofs.Wd
open Go.ChangeShapes Go.WideShapes Go.ChangeAt Go.RowKit Go.Joins Lb

theorem Try_laid : laidOutB Try.prog = true := by kernel_rfl
theorem Try_own : ownKnob Try.prog.godebug = none := by kernel_rfl
section
variable {H : Type} {enc : TypeId × Value → H} {w : World} {base : Nat} {spare : Nat → Bool} {held : Bool}

theorem lm_map_get (f : Int → Nat) (zs : List Int) (len : Nat) (i : Nat) (hi : i < len) (hl : len ≤ zs.length) : lm ((zs.take len).map f) i = f (zs.getD i 0) := by
  rw [lm_lt (by rw [List.length_map, List.length_take]; omega)]
  rw [List.getElem_map, List.getElem_take, List.getD_eq_getElem?_getD, List.getElem?_eq_getElem (by omega)]
  rfl

theorem nat_cell {fuel : Nat} {v : Value} {x : DataW H × List MemPlace} (h : DataW.trod enc Try.prog w base (fun _ => true) held fuel 23 [v] = some x) : ∃ A n c l, v = .slice A n c ∧ Rd w A n c l ∧ Lt l := by
  rcases open_ints Try.underlying23 Try.underlying53 (by kernel_rfl) h with ⟨hcs, _⟩ | ⟨a, len, cap, zs, hcs, _, hl, hm, hz, _, hcell, hwz⟩
  · obtain rfl : v = .slice none 0 0 := by simpa using hcs
    exact ⟨none, 0, 0, [], rfl, Rd.nil_ w, Lt_nil⟩
  · obtain rfl : v = .slice (some a) len cap := by simpa using hcs
    simp only [if_true] at hz
    have wz : ∀ i, i < len → 0 ≤ zs.getD i 0 ∧ zs.getD i 0 < 4294967296 := fun i hi => by
      have hmem : zs.getD i 0 ∈ zs := by
        rw [List.getD_eq_getElem?_getD, List.getElem?_eq_getElem (by omega)]
        simp
      have := hwz _ hmem
      simp [Lit.wf, IntKind.min, IntKind.max, IntKind.signed, IntKind.bits] at this
      simp
      omega
    refine ⟨some a, len, cap, (zs.take len).map Int.toNat, rfl, ⟨by rw [List.length_map, List.length_take]; omega, hl, by unfold maxLen at hm; omega, fun e => (by cases e), fun i hi => ?_⟩, fun x hx => ?_⟩
    · obtain ⟨b, off, spot⟩ := a
      have hspot : spot = none := by simpa [Addr.add] using World.cell?_spot (hcell 0 (by omega))
      subst hspot
      refine ⟨b, off, rfl, ?_⟩
      have := hcell i (by omega)
      rw [Addr.add_lit] at this
      rw [this, lm_map_get _ _ _ _ hi (by omega), Int.toNat_of_nonneg (wz i hi).1]
    · obtain ⟨z, hz1, rfl⟩ := List.mem_map.1 hx
      obtain ⟨i, hi, rfl⟩ := List.getElem_of_mem hz1
      rw [List.length_take] at hi
      have := wz i (by omega)
      rw [List.getD_eq_getElem?_getD, List.getElem?_eq_getElem (by omega)] at this
      rw [List.getElem_take]
      simp at this
      unfold BB
      omega

set_option maxRecDepth 100000 in
theorem int_arg {r : Reach} {b0 : Nat} {v : Value} {d : DataW H} {p : List MemPlace} (hv : Value.okWide Try.prog w r b0 25 v) (h : DataW.Trod enc Try.prog w base (fun _ => true) held 25 v d p) :
    ∃ s A n c l, v = .agg #[.bool s, .slice A n c] ∧ Rd w A n c l ∧ Lt l := by
  obtain ⟨v0, v1, y0, y1, n, rfl, _, _, h0, h1⟩ := open_agg2 Try.underlying25 (by kernel_rfl) (by kernel_rfl) hv h
  obtain ⟨s, hs, _⟩ := DataW.trod_bool Try.underlying4 h0
  obtain rfl : v0 = .bool s := by simpa using hs
  obtain ⟨A, n, c, l, rfl, h2, h3⟩ := nat_cell h1
  exact ⟨s, A, n, c, l, rfl, h2, h3⟩
end
end Go.Proofs.Wd
