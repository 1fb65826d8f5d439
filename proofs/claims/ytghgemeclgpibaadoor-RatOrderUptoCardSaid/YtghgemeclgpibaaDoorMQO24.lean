/- strait/straitlaw07.RatOrder returns true at every input whose arguments' bulk is at most the row's bound, and its arguments read as before; the tied card of the second form. -/
import Derived.Test.YtghgemeclgpibaaDoorMQO22
import Derived.Test.YtghgemeclgpibaaDoorMQO23
import Derived.Test.YtghgemeclgpibaaDoorMQO21
import Derived.Deep.DeepWitnessRowRef
namespace Go.Proofs.YtghgemeclgpibaaDoor
open Go.ChangeShapes Go.WideShapes Go.ChangeAt Go.RowKit Go.Proofs.Wd Go

set_option maxRecDepth 100000 in
theorem ratOrder_contract (H : Type) (enc : TypeId × Value → H) (W : World) (base : Nat) (args : Array Value) (ds gs : List (DataW H)) (before : List MemPlace)
    (hval0 : ∀ (j : Nat) t v, Tryd.f9.params[j]? = some t → args[j]? = some v → Value.okWide Tryd.prog W .any base t v)
    (hW : DataW.Whole enc Tryd.prog Tryd.f9.params.toList Rows.ratOrderSpec.vars false W args.toList ds gs before) (hS : Rows.uptoSmall H (ds ++ gs) = true) (hL : laidMetH Tryd.prog bitsLaid W) :
    Calls Tryd.prog 9 args W fun e W' => ∃ v, e = .returned v ∧ Rows.ratOrderSpec.post enc Tryd.prog Tryd.f9 false true false false W args v W' := by
  have hval : ∀ (j : Nat) t v, Tryd.f9.params[j]? = some t → args[j]? = some v → Value.okWide Tryd.prog W .any base t v := hval0
  have hW' := hW
  obtain ⟨p, q, hA0, hV, rfl, hfz, hnd⟩ := hW
  have hA : DataW.TrodAll enc Tryd.prog W 0 (fun _ => true) true Tryd.f9.params.toList args.toList ds p := hA0
  rw [Tryd.params9] at hA hval
  obtain ⟨v0, v1, v2, d0, d1, d2, p0, p1, p2, rfl, rfl, rfl, h0, h1, h2⟩ := trodAll_three hA
  obtain ⟨rfl, rfl⟩ := trodVars_none hV
  obtain ⟨x0, r0, k0⟩ := rat_arg (hval 0 43 _ rfl rfl) h0
  obtain ⟨x1, r1, k1⟩ := rat_arg (hval 1 43 _ rfl rfl) h1
  obtain ⟨x2, r2, k2⟩ := rat_arg (hval 2 43 _ rfl rfl) h2
  have hB : Rows.uptoSmall H [d0, d1, d2] = true := by simpa using hS
  have hT := tab_of_laid hL
  clear hA0 hval0
  simp only [List.append_nil, List.append_assoc] at hW'
  have hlt : ∀ x ∈ p0 ++ (p1 ++ p2), x.block < W.heap.size := fun x hx => hW'.lt x (by simpa using hx)
  have hargs : ∀ {W' : World} {t : TypeId} {v : Value} {d : DataW H} {p : List MemPlace}, Below W.heap.size W W' → (∀ x ∈ p, x.block < W.heap.size) → Tryd.prog.readableRec t = true → t < Tryd.prog.types.size → DataW.Trod enc Tryd.prog W 0 (fun _ => true) true t v d p → DataW.Trod enc Tryd.prog W' 0 (fun b => decide (b < W.heap.size)) true t v d p :=
    fun hn hl hr hs ht => Below.trod Tryd_laid hr hs ht hn hl
  refine (ratorder_t r0 r1 r2 (fun x hx => by
      rcases List.mem_cons.1 hx with rfl | hx
      · have := bk_bound hB (d := d0) (by simp)
        omega
      rcases List.mem_cons.1 hx with rfl | hx
      · have := bk_bound hB (d := d1) (by simp)
        omega
      rcases List.mem_cons.1 hx with rfl | hx
      · have := bk_bound hB (d := d2) (by simp)
        omega
      cases hx) hT).mono fun e W' he => ?_
  obtain ⟨v, rfl, hv, hw⟩ := he
  obtain rfl : v = .bool true := hv
  exact ⟨_, rfl, ⟨[d0, d1, d2], [], p0 ++ (p1 ++ p2), [], p0 ++ (p1 ++ p2), [], hW', trodAll_mk1 (shut_bool Tryd.underlying4 true),
    trodAll_mk3 (hargs hw (fun x hx => hlt x (by simp [hx])) (by kernel_rfl) (of_decide_eq_true (by kernel_rfl)) h0) (hargs hw (fun x hx => hlt x (by simp [hx])) (by kernel_rfl) (of_decide_eq_true (by kernel_rfl)) h1) (hargs hw (fun x hx => hlt x (by simp [hx])) (by kernel_rfl) (of_decide_eq_true (by kernel_rfl)) h2), rfl, hw.frame _, fun h => by cases h⟩⟩

set_option maxRecDepth 100000 in
theorem ratOrder_reads (os : Os) {H : Type} (enc : TypeId × Value → H) : ∃ x : List (DataW H) × List (DataW H) × List MemPlace, DataW.whole enc Tryd.prog ((World.doorLaid Tryd.prog 400 os).forCall (fun _ _ => 0) ⟨#[], #[.agg #[.bool false, .slice none 0 0, .slice none 0 0], .agg #[.bool false, .slice none 0 0, .slice none 0 0], .agg #[.bool false, .slice none 0 0, .slice none 0 0]], []⟩).memory Tryd.f9.params.toList Rows.ratOrderSpec.vars false (#[.agg #[.bool false, .slice none 0 0, .slice none 0 0], .agg #[.bool false, .slice none 0 0, .slice none 0 0], .agg #[.bool false, .slice none 0 0, .slice none 0 0]] : Array Value).toList 8 = some x ∧ Rows.uptoSmall H (x.1 ++ x.2.1) = true := by
  refine ⟨([.agg [.agg [.lit (.bool false), .nil], .nil], .agg [.agg [.lit (.bool false), .nil], .nil], .agg [.agg [.lit (.bool false), .nil], .nil]], [], []), by kernel_rfl, by kernel_rfl⟩

set_option maxRecDepth 100000 in
theorem ratOrder_liftedU (os : Os) (started : os.Started) (H : Type) (enc : TypeId × Value → H) (F : Stop.Interp) :
    ReturnsInHanded {} Tryd.checked os 9 .any ((Rows.OpenSpec.upto Rows.ratOrderSpec).preRow enc Tryd.prog Tryd.f9 Rows.ratOrderUptoRow.domain false Rows.ratOrderUptoRow.laid) (((Rows.OpenSpec.upto Rows.ratOrderSpec).at F).post enc Tryd.prog Tryd.f9 false true false false) := by
  obtain ⟨x, hx, hk⟩ := ratOrder_reads os enc
  refine returnsInHanded_of_row (C := Tryd.checked) (s := Rows.OpenSpec.upto Rows.ratOrderSpec) Tryd_own started (by kernel_rfl) Tryd.func9
    (witness_row_atRef (enc := enc) (C := Tryd.checked) false (World.doorLaid Tryd.prog 400 os) #[.agg #[.bool false, .slice none 0 0, .slice none 0 0], .agg #[.bool false, .slice none 0 0, .slice none 0 0], .agg #[.bool false, .slice none 0 0, .slice none 0 0]] rfl (by kernel_rfl) (by kernel_rfl) (by kernel_rfl)
      (OpenSpec.preRow_of_cond 8 hx rfl (fun k hk' => by cases hk'; exact hk) (by kernel_rfl) (door_met os _))) ?_
  intro W base args ds gs before hval hW _ hcond _ hL _ _
  exact ratOrder_contract H enc W base args ds gs before hval hW (hcond _ rfl) hL

theorem ratOrder_saidU : Rows.RatOrderUptoSaid :=
  OpenClaim.holds_of_cond 9 Tryd.f9 rfl rfl rfl rfl rfl rfl rfl ⟨rfl, rfl, rfl, rfl, rfl⟩ rfl rfl rfl rfl rfl (by kernel_rfl) Tryd.func9 (by kernel_rfl)
    (of_decide_eq_true (by kernel_rfl)) (by unfold Func.isWrapper; first | (rw [if_pos (by decide +kernel)]; kernel_rfl) | (rw [if_neg (by decide +kernel)]; exact ⟨rfl, rfl⟩))
    (fun os started H enc _ F => by rw [OpenClaim.pre_eq_preRow]; exact ratOrder_liftedU os started H enc F)

theorem ratOrder_cardU : Rows.RatOrderUptoCardSaid :=
  Claim7.holds_tied_plain_at .later [] _ _ _ _
    ratOrder_saidU (fun _ h => by cases h) (by kernel_rfl) (fun _ h => by cases h) ratOrderUpto_row_tie rfl ⟨rfl, rfl⟩ (by kernel_rfl) rfl
    (fun f fn hf hfn => by
      obtain rfl : f = 9 := Option.some.inj ((show Tryd.prog.funcNamed "strait/straitlaw07.RatOrder" = some 9 by kernel_rfl).symm.trans hf) |>.symm
      obtain rfl : fn = Tryd.f9 := (Option.some.inj (Tryd.func9.symm.trans hfn)).symm
      exact ⟨by kernel_rfl, fun j t ht => by
        rw [Tryd.params9] at ht
        have hm : t ∈ [43, 43, 43] := by simpa using Array.mem_of_getElem? ht
        have hall : ([43, 43, 43].all fun u => !Tryd.prog.wantsStandIn u) = true := by kernel_rfl
        exact (show Tryd.prog.wantsStandIn t = false by simpa using List.all_eq_true.1 hall t hm)⟩)
    (by kernel_rfl)
end Go.Proofs.YtghgemeclgpibaaDoor

