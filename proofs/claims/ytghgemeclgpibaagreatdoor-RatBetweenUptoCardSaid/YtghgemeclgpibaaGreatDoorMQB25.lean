/- strait/straitlaw07.RatBetween returns true at every input whose arguments' bulk is at most the row's bound, and its arguments read as before; the tied card of the second form. -/
import Derived.Test.YtghgemeclgpibaaGreatDoorMQB23
import Derived.Test.YtghgemeclgpibaaGreatDoorMQB24
import Derived.Test.YtghgemeclgpibaaGreatDoorMQB22
import Derived.Deep.DeepWitnessRowRef
namespace Go.Proofs.YtghgemeclgpibaaGreatDoor
open Go.ChangeShapes Go.WideShapes Go.ChangeAt Go.RowKit Go.Proofs.Wd Go

set_option maxRecDepth 100000 in
theorem ratBetween_contract (H : Type) (enc : TypeId × Value → H) (W : World) (base : Nat) (args : Array Value) (ds gs : List (DataW H)) (before : List MemPlace)
    (hval0 : ∀ (j : Nat) t v, Tryz.f3.params[j]? = some t → args[j]? = some v → Value.okWide Tryz.prog W .any base t v)
    (hW : DataW.Whole enc Tryz.prog Tryz.f3.params.toList Rows.ratBetweenSpec.vars false W args.toList ds gs before) (hS : Rows.uptoSmall H (ds ++ gs) = true) (hL : laidMetH Tryz.prog bitsLaid W) :
    Calls Tryz.prog 3 args W fun e W' => ∃ v, e = .returned v ∧ Rows.ratBetweenSpec.post enc Tryz.prog Tryz.f3 false true false false W args v W' := by
  have hval : ∀ (j : Nat) t v, Tryz.f3.params[j]? = some t → args[j]? = some v → Value.okWide Tryz.prog W .any base t v := hval0
  have hW' := hW
  obtain ⟨p, q, hA0, hV, rfl, hfz, hnd⟩ := hW
  have hA : DataW.TrodAll enc Tryz.prog W 0 (fun _ => true) true Tryz.f3.params.toList args.toList ds p := hA0
  rw [Tryz.params3] at hA hval
  obtain ⟨v0, v1, d0, d1, p0, p1, rfl, rfl, rfl, h0, h1⟩ := trodAll_two hA
  obtain ⟨rfl, rfl⟩ := trodVars_none hV
  obtain ⟨x0, r0, k0⟩ := rat_arg (hval 0 27 _ rfl rfl) h0
  obtain ⟨x1, r1, k1⟩ := rat_arg (hval 1 27 _ rfl rfl) h1
  have hB : Rows.uptoSmall H [d0, d1] = true := by simpa using hS
  have hT := tab_of_laid hL
  clear hA0 hval0
  simp only [List.append_nil] at hW'
  have hlt : ∀ x ∈ p0 ++ p1, x.block < W.heap.size := fun x hx => hW'.lt x (by simpa using hx)
  have hargs : ∀ {W' : World} {t : TypeId} {v : Value} {d : DataW H} {p : List MemPlace}, Below W.heap.size W W' → (∀ x ∈ p, x.block < W.heap.size) → Tryz.prog.readableRec t = true → t < Tryz.prog.types.size → DataW.Trod enc Tryz.prog W 0 (fun _ => true) true t v d p → DataW.Trod enc Tryz.prog W' 0 (fun b => decide (b < W.heap.size)) true t v d p :=
    fun hn hl hr hs ht => Below.trod Tryz_laid hr hs ht hn hl
  refine (ratbetween_t r0 r1 (fun x hx => by
      rcases List.mem_cons.1 hx with rfl | hx
      · have := bk_bound hB (d := d0) (by simp)
        omega
      rcases List.mem_cons.1 hx with rfl | hx
      · have := bk_bound hB (d := d1) (by simp)
        omega
      cases hx) hT).mono fun e W' he => ?_
  obtain ⟨v, rfl, hv, hw⟩ := he
  obtain rfl : v = .bool true := hv
  exact ⟨_, rfl, ⟨[d0, d1], [], p0 ++ p1, [], p0 ++ p1, [], hW', trodAll_mk1 (shut_bool Tryz.underlying4 true),
    trodAll_mk2 (hargs hw (fun x hx => hlt x (by simp [hx])) (by kernel_rfl) (of_decide_eq_true (by kernel_rfl)) h0) (hargs hw (fun x hx => hlt x (by simp [hx])) (by kernel_rfl) (of_decide_eq_true (by kernel_rfl)) h1), rfl, hw.frame _, fun h => by cases h⟩⟩

set_option maxRecDepth 100000 in
theorem ratBetween_reads (os : Os) {H : Type} (enc : TypeId × Value → H) : ∃ x : List (DataW H) × List (DataW H) × List MemPlace, DataW.whole enc Tryz.prog ((World.doorLaid Tryz.prog 400 os).forCall (fun _ _ => 0) ⟨#[], #[.agg #[.bool false, .slice none 0 0, .slice none 0 0], .agg #[.bool false, .slice none 0 0, .slice none 0 0]], []⟩).memory Tryz.f3.params.toList Rows.ratBetweenSpec.vars false (#[.agg #[.bool false, .slice none 0 0, .slice none 0 0], .agg #[.bool false, .slice none 0 0, .slice none 0 0]] : Array Value).toList 8 = some x ∧ Rows.uptoSmall H (x.1 ++ x.2.1) = true := by
  refine ⟨([.agg [.agg [.lit (.bool false), .nil], .nil], .agg [.agg [.lit (.bool false), .nil], .nil]], [], []), by kernel_rfl, by kernel_rfl⟩

set_option maxRecDepth 100000 in
theorem ratBetween_liftedU (os : Os) (started : os.Started) (H : Type) (enc : TypeId × Value → H) (F : Stop.Interp) :
    ReturnsInHanded {} Tryz.checked os 3 .any ((Rows.OpenSpec.upto Rows.ratBetweenSpec).preRow enc Tryz.prog Tryz.f3 Rows.ratBetweenUptoRow.domain false Rows.ratBetweenUptoRow.laid) (((Rows.OpenSpec.upto Rows.ratBetweenSpec).at F).post enc Tryz.prog Tryz.f3 false true false false) := by
  obtain ⟨x, hx, hk⟩ := ratBetween_reads os enc
  refine returnsInHanded_of_row (C := Tryz.checked) (s := Rows.OpenSpec.upto Rows.ratBetweenSpec) Tryz_own started (by kernel_rfl) Tryz.func3
    (witness_row_atRef (enc := enc) (C := Tryz.checked) false (World.doorLaid Tryz.prog 400 os) #[.agg #[.bool false, .slice none 0 0, .slice none 0 0], .agg #[.bool false, .slice none 0 0, .slice none 0 0]] rfl (by kernel_rfl) (by kernel_rfl) (by kernel_rfl)
      (OpenSpec.preRow_of_cond 8 hx rfl (fun k hk' => by cases hk'; exact hk) (by kernel_rfl) (door_met os _))) ?_
  intro W base args ds gs before hval hW _ hcond _ hL _ _
  exact ratBetween_contract H enc W base args ds gs before hval hW (hcond _ rfl) hL

theorem ratBetween_saidU : Rows.RatBetweenUptoSaid :=
  OpenClaim.holds_of_cond 3 Tryz.f3 rfl rfl rfl rfl rfl rfl rfl ⟨rfl, rfl, rfl, rfl, rfl⟩ rfl rfl rfl rfl rfl (by kernel_rfl) Tryz.func3 (by kernel_rfl)
    (of_decide_eq_true (by kernel_rfl)) (by unfold Func.isWrapper; first | (rw [if_pos (by decide +kernel)]; kernel_rfl) | (rw [if_neg (by decide +kernel)]; exact ⟨rfl, rfl⟩))
    (fun os started H enc _ F => by rw [OpenClaim.pre_eq_preRow]; exact ratBetween_liftedU os started H enc F)

theorem ratBetween_cardU : Rows.RatBetweenUptoCardSaid :=
  Claim7.holds_tied_plain_at .later [] _ _ _ _
    ratBetween_saidU (fun _ h => by cases h) (by kernel_rfl) (fun _ h => by cases h) ratBetweenUpto_row_tie rfl ⟨rfl, rfl⟩ (by kernel_rfl) rfl
    (fun f fn hf hfn => by
      obtain rfl : f = 3 := Option.some.inj ((show Tryz.prog.funcNamed "strait/straitlaw07.RatBetween" = some 3 by kernel_rfl).symm.trans hf) |>.symm
      obtain rfl : fn = Tryz.f3 := (Option.some.inj (Tryz.func3.symm.trans hfn)).symm
      exact ⟨by kernel_rfl, fun j t ht => by
        rw [Tryz.params3] at ht
        have hm : t ∈ [27, 27] := by simpa using Array.mem_of_getElem? ht
        have hall : ([27, 27].all fun u => !Tryz.prog.wantsStandIn u) = true := by kernel_rfl
        exact (show Tryz.prog.wantsStandIn t = false by simpa using List.all_eq_true.1 hall t hm)⟩)
    (by kernel_rfl)
end Go.Proofs.YtghgemeclgpibaaGreatDoor

