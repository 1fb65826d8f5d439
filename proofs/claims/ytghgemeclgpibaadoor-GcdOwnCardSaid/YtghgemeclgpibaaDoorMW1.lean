/- append(x, make(.., k)...) onto a row of limbs of the call's own, be it empty. -/
import Derived.Test.YtghgemeclgpibaaDoorMG16
namespace Go.Proofs.Wd
open Go.RowKit Lb

set_option maxRecDepth 100000 in
theorem run_app0 (R n cap k : Nat) (l : List Nat) (w : World) (h : Row w R cap l) (hl : l.length = n) (hk : 0 < k) (hsm : n + k ≤ 100000) (ty : TypeId) :
    ∃ R' cap' w', (Builtin.append_ #[23, 3] ty #[.slice (some ⟨R, 0, none⟩) n cap, .int .i64 (k : Int)]).run Tryd.prog w = .ok (.slice (some ⟨R', 0, none⟩) (n + k) cap') w' ∧
      Row w' R' cap' (l ++ List.replicate k 0) ∧ w.grownBy w' (some R) ∧ (R' = R ∨ R' = w.heap.size) := by
  obtain ⟨i, hi, hz, hs, hb⟩ := info_parts u32_info
  obtain ⟨cs, h1, h2, h3, h4, h5⟩ := h
  have hw : IntKind.i64.wrap (k : Int) = k := by rw [IntKind.wrap_i64]; omega
  have hneg : ¬ ((k : Int) < 0) := by omega
  have h48i : ¬ (281474976710656 < (k : Int) * (i.bytes : Int)) := by rw [hb]; omega
  have hint : Tryd.prog.underlying 3 = some (.int .i64) := Tryd.underlying3
  have hk0 : ¬ (k = 0) := by omega
  by_cases hroom : n + k ≤ cap
  · have hst := run_storeCells_at Tryd.prog R n 49 (u32s (List.replicate k 0)) 0 cs w h1 (by rw [u32s_len]; simp; omega) (u32s_one _)
    simp only [Nat.add_zero] at hst
    refine ⟨R, cap, w.setRow R (cs.toList.take n ++ u32s (List.replicate k 0) ++ cs.toList.drop (n + (u32s (List.replicate k 0)).length)).toArray, ?_, ⟨_, setRow_heap w R cs _ _ _ h1, ?_, ?_, h4, ?_⟩, ⟨rfl, rfl, rfl, by simp, fun b _ hb => setRow_other w R b _ (fun e => hb (by rw [e]))⟩, .inl rfl⟩
    · simp [Builtin.append_, run_underlying u32_under, run_underlying hint, sizeOf, typeInfo, zeroValue, hi, hz, hs, asInt, asIntOf, hw, hk0, hneg, h48i, hroom, Addr.add_lit, zeros32, hst]
    · simp only [List.size_toArray, List.length_append, List.length_take, List.length_drop, Array.length_toList, u32s_len, List.length_replicate]
      omega
    · simp; omega
    · rw [List.length_append, List.length_replicate, u32s_append, hl]
      have e1 : cs.toList.take n = u32s l := by rw [← hl]; exact h5
      rw [e1]
      have e2 : (u32s l ++ u32s (List.replicate k 0)).length = n + k := by rw [List.length_append, u32s_len, u32s_len, hl, List.length_replicate]
      rw [← e2]
      exact List.take_left
  · have hfo := run_firstCells_some (P := Tryd.prog) w.drew i.size n ⟨R, 0, none⟩ n cap (u32s l) (by rw [u32s_len, hs, hl]; omega) (fun j v hj => by
      have hlt : j < l.length := by have := (List.getElem?_eq_some_iff.1 hj).1; rwa [u32s_len] at this
      rw [u32s_get l j hlt] at hj
      injection hj with hj
      subst hj
      rw [Addr.add_lit, Nat.zero_add]
      exact Row.cell (W := w) ⟨cs, h1, h2, h3, h4, h5⟩ hlt)
    have h63' : ¬ (9223372036854775807 < ((n : Int) + (k : Int))) := by omega
    have hfit := growslice_fits (old := cap) (need := n + k) (bytes := i.bytes) (by omega) (by rw [hb]; omega)
    have h48' : ¬ (281474976710656 < Builtin.nextslicecap (n + k) cap * i.bytes) := by omega
    have hge := grownCap_ge w (n + k) cap 49
    have hcm : grownCap w (n + k) cap 49 ≤ maxLen := grownCap_le_maxLen w (n + k) cap 49 (by unfold maxLen; omega)
    refine ⟨w.heap.size, grownCap w (n + k) cap 49, w.drew.alloc (.cells ((u32s l).toArray ++ (u32s (List.replicate k 0)).toArray ++ Builtin.zeroCells (Value.int .u32 0).cells (grownCap w (n + k) cap 49 - (n + k))) 49), ?_, ⟨_, heap_alloc_new w.drew _, ?_, ?_, by unfold maxLen at hcm; omega, ?_⟩, ⟨rfl, rfl, rfl, by simp, fun b hb _ => heap_alloc_old w.drew _ (by exact hb)⟩, .inr rfl⟩
    · simp [Builtin.append_, run_underlying u32_under, run_underlying hint, sizeOf, typeInfo, zeroValue, hi, hz, hs, asInt, asIntOf, hw, hk0, hneg, h48i, hroom, h63', h48', Question.forced, newRow, grownCap, zeros32]
      rw [hs] at hfo
      simp [hfo]
    · simp only [Array.size_append, List.size_toArray, size_zeroCells, u32s_len, List.length_replicate, hl]
      have : (Value.int IntKind.u32 0).cells.size = 1 := rfl
      rw [this]
      omega
    · simp; omega
    · simp only [Array.toList_append, List.append_assoc]
      rw [← List.append_assoc, u32s_append]
      have e2 : (u32s l ++ u32s (List.replicate k 0)).length = (l ++ List.replicate k 0).length := by rw [List.length_append, u32s_len, u32s_len, List.length_append]
      rw [← e2]
      exact List.take_left

theorem run_app0K (R n cap k : Nat) (l : List Nat) (w : World) (h : Row w R cap l) (hl : l.length = n) (hsm : n + k ≤ 100000) (ty : TypeId) :
    ∃ R' cap' w', (Builtin.append_ #[23, 3] ty #[.slice (some ⟨R, 0, none⟩) n cap, .int .i64 (k : Int)]).run Tryd.prog w = .ok (.slice (some ⟨R', 0, none⟩) (n + k) cap') w' ∧
      Row w' R' cap' (l ++ List.replicate k 0) ∧ w.grownBy w' (some R) ∧ (R' = R ∨ R' = w.heap.size) := by
  rcases Nat.eq_zero_or_pos k with rfl | hk
  · have hc := h.cap
    obtain ⟨i, hi, hz, hs, hb⟩ := info_parts u32_info
    have hint : Tryd.prog.underlying 3 = some (.int .i64) := Tryd.underlying3
    have hroom : n ≤ cap := by omega
    have hw : IntKind.i64.wrap 0 = 0 := rfl
    refine ⟨R, cap, w, ?_, by rw [List.replicate_zero, List.append_nil]; exact h, ⟨rfl, rfl, rfl, Nat.le_refl _, fun _ _ _ => rfl⟩, .inl rfl⟩
    simp [Builtin.append_, run_underlying u32_under, run_underlying hint, sizeOf, typeInfo, hi, asInt, asIntOf, hw, hroom, storeCells]
  · exact run_app0 R n cap k l w h hl hk hsm ty

end Go.Proofs.Wd
