/- strait/straitlaw07.RatTells returns true at every input whose arguments' bulk is at most the row's bound, and its arguments read as before; the tied card of the second form. -/
import Derived.Test.YtghgemeclgpibaaGreatDoorMQT22
import Derived.Test.YtghgemeclgpibaaGreatDoorMQT23
import Derived.Test.YtghgemeclgpibaaGreatDoorMQT24
import Derived.Test.YtghgemeclgpibaaGreatDoorMQT21
import Derived.Deep.DeepWitnessRowRef
namespace Go.Proofs.YtghgemeclgpibaaGreatDoor
open Go.ChangeShapes Go.WideShapes Go.ChangeAt Go.RowKit Go.Proofs.Wd Go

set_option maxRecDepth 100000 in
theorem ratTells_contract (H : Type) (enc : TypeId × Value → H) (W : World) (base : Nat) (args : Array Value) (ds gs : List (DataW H)) (before : List MemPlace)
    (hval0 : ∀ (j : Nat) t v, Tryz.f4.params[j]? = some t → args[j]? = some v → Value.okWide Tryz.prog W .any base t v)
    (hW : DataW.Whole enc Tryz.prog Tryz.f4.params.toList Rows.ratTellsSpec.vars false W args.toList ds gs before) (hS : Rows.uptoSmall H (ds ++ gs) = true) (hL : laidMetH Tryz.prog bitsLaid W) :
    Calls Tryz.prog 4 args W fun e W' => ∃ v, e = .returned v ∧ Rows.ratTellsSpec.post enc Tryz.prog Tryz.f4 false true false false W args v W' := by
  have hval : ∀ (j : Nat) t v, Tryz.f4.params[j]? = some t → args[j]? = some v → Value.okWide Tryz.prog W .any base t v := hval0
  have hW' := hW
  obtain ⟨p, q, hA0, hV, rfl, hfz, hnd⟩ := hW
  have hA : DataW.TrodAll enc Tryz.prog W 0 (fun _ => true) true Tryz.f4.params.toList args.toList ds p := hA0
  rw [Tryz.params4] at hA hval
  obtain ⟨v0, v1, v2, v3, d0, d1, d2, d3, p0, p1, p2, p3, rfl, rfl, rfl, h0, h1, h2, h3⟩ := trodAll_four hA
  obtain ⟨rfl, rfl⟩ := trodVars_none hV
  obtain ⟨x0, r0, k0⟩ := rat_arg (hval 0 27 _ rfl rfl) h0
  obtain ⟨x1, r1, k1⟩ := rat_arg (hval 1 27 _ rfl rfl) h1
  obtain ⟨L2, r2, k2⟩ := rats_arg (hval 2 44 _ rfl rfl) h2
  obtain ⟨z3, rfl, e3, f3, g3⟩ := open_int Tryz.underlying3 (hval 3 3 _ rfl rfl) h3
  have hB : Rows.uptoSmall H [d0, d1, d2, d3] = true := by simpa using hS
  have hT := tab_of_laid hL
  clear hA0 hval0
  simp only [List.append_nil, List.append_assoc] at hW'
  have hlt : ∀ x ∈ p0 ++ (p1 ++ (p2 ++ p3)), x.block < W.heap.size := fun x hx => hW'.lt x (by simpa using hx)
  have hargs : ∀ {W' : World} {t : TypeId} {v : Value} {d : DataW H} {p : List MemPlace}, Below W.heap.size W W' → (∀ x ∈ p, x.block < W.heap.size) → Tryz.prog.readableRec t = true → t < Tryz.prog.types.size → DataW.Trod enc Tryz.prog W 0 (fun _ => true) true t v d p → DataW.Trod enc Tryz.prog W' 0 (fun b => decide (b < W.heap.size)) true t v d p :=
    fun hn hl hr hs ht => Below.trod Tryz_laid hr hs ht hn hl
  refine (rattells_t r0 r1 r2 rfl (fun x hx => by
      rcases List.mem_cons.1 hx with rfl | hx
      · have := bk_bound hB (d := d0) (by simp)
        omega
      rcases List.mem_cons.1 hx with rfl | hx
      · have := bk_bound hB (d := d1) (by simp)
        omega
      cases hx) (fun x hx => by have := k2 x hx; have := bk_bound hB (d := d2) (by simp); omega) (by have := g3; simp [Lit.wf, IntKind.min, IntKind.max, IntKind.signed, IntKind.bits] at this; omega) hT).mono fun e W' he => ?_
  obtain ⟨v, rfl, hv, hw⟩ := he
  obtain rfl : v = .bool true := hv
  exact ⟨_, rfl, ⟨[d0, d1, d2, d3], [], p0 ++ (p1 ++ (p2 ++ p3)), [], p0 ++ (p1 ++ (p2 ++ p3)), [], hW', trodAll_mk1 (shut_bool Tryz.underlying4 true),
    trodAll_mk4 (hargs hw (fun x hx => hlt x (by simp [hx])) (by kernel_rfl) (of_decide_eq_true (by kernel_rfl)) h0) (hargs hw (fun x hx => hlt x (by simp [hx])) (by kernel_rfl) (of_decide_eq_true (by kernel_rfl)) h1) (hargs hw (fun x hx => hlt x (by simp [hx])) (by kernel_rfl) (of_decide_eq_true (by kernel_rfl)) h2) (hargs hw (fun x hx => hlt x (by simp [hx])) (by kernel_rfl) (of_decide_eq_true (by kernel_rfl)) h3), rfl, hw.frame _, fun h => by cases h⟩⟩

set_option maxRecDepth 100000 in
theorem ratTells_reads (os : Os) {H : Type} (enc : TypeId × Value → H) : ∃ x : List (DataW H) × List (DataW H) × List MemPlace, DataW.whole enc Tryz.prog ((World.doorLaid Tryz.prog 400 os).forCall (fun _ _ => 0) ⟨#[], #[.agg #[.bool false, .slice none 0 0, .slice none 0 0], .agg #[.bool false, .slice none 0 0, .slice none 0 0], .slice none 0 0, .int .i64 0], []⟩).memory Tryz.f4.params.toList Rows.ratTellsSpec.vars false (#[.agg #[.bool false, .slice none 0 0, .slice none 0 0], .agg #[.bool false, .slice none 0 0, .slice none 0 0], .slice none 0 0, .int .i64 0] : Array Value).toList 8 = some x ∧ Rows.uptoSmall H (x.1 ++ x.2.1) = true := by
  refine ⟨([.agg [.agg [.lit (.bool false), .nil], .nil], .agg [.agg [.lit (.bool false), .nil], .nil], .nil, .lit (.int .i64 0)], [], []), by kernel_rfl, by kernel_rfl⟩

set_option maxRecDepth 100000 in
theorem ratTells_liftedU (os : Os) (started : os.Started) (H : Type) (enc : TypeId × Value → H) (F : Stop.Interp) :
    ReturnsInHanded {} Tryz.checked os 4 .any ((Rows.OpenSpec.upto Rows.ratTellsSpec).preRow enc Tryz.prog Tryz.f4 Rows.ratTellsUptoRow.domain false Rows.ratTellsUptoRow.laid) (((Rows.OpenSpec.upto Rows.ratTellsSpec).at F).post enc Tryz.prog Tryz.f4 false true false false) := by
  obtain ⟨x, hx, hk⟩ := ratTells_reads os enc
  refine returnsInHanded_of_row (C := Tryz.checked) (s := Rows.OpenSpec.upto Rows.ratTellsSpec) Tryz_own started (by kernel_rfl) Tryz.func4
    (witness_row_atRef (enc := enc) (C := Tryz.checked) false (World.doorLaid Tryz.prog 400 os) #[.agg #[.bool false, .slice none 0 0, .slice none 0 0], .agg #[.bool false, .slice none 0 0, .slice none 0 0], .slice none 0 0, .int .i64 0] rfl (by kernel_rfl) (by kernel_rfl) (by kernel_rfl)
      (OpenSpec.preRow_of_cond 8 hx rfl (fun k hk' => by cases hk'; exact hk) (by kernel_rfl) (door_met os _))) ?_
  intro W base args ds gs before hval hW _ hcond _ hL _ _
  exact ratTells_contract H enc W base args ds gs before hval hW (hcond _ rfl) hL

theorem ratTells_saidU : Rows.RatTellsUptoSaid :=
  OpenClaim.holds_of_cond 4 Tryz.f4 rfl rfl rfl rfl rfl rfl rfl ⟨rfl, rfl, rfl, rfl, rfl⟩ rfl rfl rfl rfl rfl (by kernel_rfl) Tryz.func4 (by kernel_rfl)
    (of_decide_eq_true (by kernel_rfl)) (by unfold Func.isWrapper; first | (rw [if_pos (by decide +kernel)]; kernel_rfl) | (rw [if_neg (by decide +kernel)]; exact ⟨rfl, rfl⟩))
    (fun os started H enc _ F => by rw [OpenClaim.pre_eq_preRow]; exact ratTells_liftedU os started H enc F)

theorem ratTells_cardU : Rows.RatTellsUptoCardSaid :=
  Claim7.holds_tied_plain_at .later [] _ _ _ _
    ratTells_saidU (fun _ h => by cases h) (by kernel_rfl) (fun _ h => by cases h) ratTellsUpto_row_tie rfl ⟨rfl, rfl⟩ (by kernel_rfl) rfl
    (fun f fn hf hfn => by
      obtain rfl : f = 4 := Option.some.inj ((show Tryz.prog.funcNamed "strait/straitlaw07.RatTells" = some 4 by kernel_rfl).symm.trans hf) |>.symm
      obtain rfl : fn = Tryz.f4 := (Option.some.inj (Tryz.func4.symm.trans hfn)).symm
      exact ⟨by kernel_rfl, fun j t ht => by
        rw [Tryz.params4] at ht
        have hm : t ∈ [27, 27, 44, 3] := by simpa using Array.mem_of_getElem? ht
        have hall : ([27, 27, 44, 3].all fun u => !Tryz.prog.wantsStandIn u) = true := by kernel_rfl
        exact (show Tryz.prog.wantsStandIn t = false by simpa using List.all_eq_true.1 hall t hm)⟩)
    (by kernel_rfl)
end Go.Proofs.YtghgemeclgpibaaGreatDoor

