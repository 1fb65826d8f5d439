/- Three operations of an open order, of which one waits for another: what is known of their values does not hang on the order. -/
import Derived.Test.YtghgemeclgpibaaOrder
namespace Go.Proofs.Wd
open Go.RowKit Lb
section
variable {F : Fence} {n : Nat} {P : Program} {md : Region.Mode} {ops : Array Oper} {Q : Exit → Act → World → Prop} {C : World → Prop} {z : Nat}

theorem three_orders {i j k : Nat} (di dj dk : Option Tmp) {fuel : Nat} {listed : Array Bool} {a : Act} {w : World}
    (r0 : Region.ready md ops listed = [i, k]) (r1 : Region.ready md ops (listed.setIfInBounds i true) = [j, k]) (r2 : Region.ready md ops ((listed.setIfInBounds i true).setIfInBounds j true) = [k])
    (r3 : Region.ready md ops ((listed.setIfInBounds i true).setIfInBounds k true) = [j]) (r4 : Region.ready md ops (listed.setIfInBounds k true) = [i])
    (hij : i ≠ j) (hik : i ≠ k) (hjk : j ≠ k) (dik : ∀ d, di = some d → dk ≠ some d) (djk : ∀ d, dj = some d → dk ≠ some d)
    (E1 E2 E3 : Value → World → Prop) (hC : ∀ W W', C W → Below W.heap.size W W' → C W') (h1 : ∀ v W W', E1 v W → Below W.heap.size W W' → E1 v W') (h2 : ∀ v W W', E2 v W → Below W.heap.size W W' → E2 v W') (h3 : ∀ v W W', E3 v W → Below W.heap.size W W' → E3 v W')
    (hw : C w)
    (si0 : ∀ W K, C W → (∀ v W' b, b = a.put di v → E1 v W' → Below W.heap.size W W' → K b W') → wpOpIn F n P ops Q i K a W)
    (si1 : ∀ vk W K, C W → (∀ v W' b, b = (a.put dk vk).put di v → E1 v W' → Below W.heap.size W W' → K b W') → wpOpIn F n P ops Q i K (a.put dk vk) W)
    (sk0 : ∀ W K, C W → (∀ v W' b, b = a.put dk v → E3 v W' → Below W.heap.size W W' → K b W') → wpOpIn F n P ops Q k K a W)
    (sk1 : ∀ vi W K, C W → (∀ v W' b, b = (a.put di vi).put dk v → E3 v W' → Below W.heap.size W W' → K b W') → wpOpIn F n P ops Q k K (a.put di vi) W)
    (sk2 : ∀ vi vj W K, C W → (∀ v W' b, b = ((a.put di vi).put dj vj).put dk v → E3 v W' → Below W.heap.size W W' → K b W') → wpOpIn F n P ops Q k K ((a.put di vi).put dj vj) W)
    (sj0 : ∀ vi W K, C W → E1 vi W → (∀ v W' b, b = (a.put di vi).put dj v → E2 v W' → Below W.heap.size W W' → K b W') → wpOpIn F n P ops Q j K (a.put di vi) W)
    (sj1 : ∀ vi vk W K, C W → E1 vi W → (∀ v W' b, b = ((a.put di vi).put dk vk).put dj v → E2 v W' → Below W.heap.size W W' → K b W') → wpOpIn F n P ops Q j K ((a.put di vi).put dk vk) W)
    (tail : ∀ vi vj vk W, C W → E1 vi W → E2 vj W → E3 vk W → wpAnyC F n P md ops z C Q fuel (((listed.setIfInBounds i true).setIfInBounds j true).setIfInBounds k true) (((a.put di vi).put dj vj).put dk vk) W) :
    wpAnyC F n P md ops z C Q (fuel + 3) listed a w := by
  refine ⟨fun e => (by rw [r0] at e; cases e), fun x hx => ?_⟩
  rw [r0] at hx
  rcases List.mem_cons.1 hx with rfl | hx
  · refine si0 w _ hw fun v W1 ac hac e1 b1 => hac ▸ ⟨.inr (hC _ _ hw b1), ?_⟩
    have c1 := hC _ _ hw b1
    refine ⟨fun e => (by rw [r1] at e; cases e), fun x hx => ?_⟩
    rw [r1] at hx
    rcases List.mem_cons.1 hx with rfl | hx
    · refine sj0 v W1 _ c1 e1 fun v2 W2 ac hac e2 b2 => hac ▸ ⟨.inr (hC _ _ c1 b2), ?_⟩
      have c2 := hC _ _ c1 b2
      refine ⟨fun e => (by rw [r2] at e; cases e), fun x hx => ?_⟩
      rw [r2] at hx
      obtain rfl : x = k := by simpa using hx
      exact sk2 v v2 W2 _ c2 fun v3 W3 ac hac e3 b3 => hac ▸ ⟨.inr (hC _ _ c2 b3), tail v v2 v3 W3 (hC _ _ c2 b3) (h1 _ _ _ (h1 _ _ _ e1 b2) b3) (h2 _ _ _ e2 b3) e3⟩
    · obtain rfl : x = k := by simpa using hx
      refine sk1 v W1 _ c1 fun v3 W2 ac hac e3 b2 => hac ▸ ⟨.inr (hC _ _ c1 b2), ?_⟩
      have c2 := hC _ _ c1 b2
      refine ⟨fun e => (by rw [r3] at e; cases e), fun x hx => ?_⟩
      rw [r3] at hx
      obtain rfl : x = j := by simpa using hx
      refine sj1 v v3 W2 _ c2 (h1 _ _ _ e1 b2) fun v2 W3 ac hac e2 b3 => hac ▸ ⟨.inr (hC _ _ c2 b3), ?_⟩
      rw [Array.setIfInBounds_comm _ _ (Ne.symm hjk), ← Act.put_comm (a.put di v) v2 v3 djk]
      exact tail v v2 v3 W3 (hC _ _ c2 b3) (h1 _ _ _ (h1 _ _ _ e1 b2) b3) e2 (h3 _ _ _ e3 b3)
  · obtain rfl : x = k := by simpa using hx
    refine sk0 w _ hw fun v3 W1 ac hac e3 b1 => hac ▸ ⟨.inr (hC _ _ hw b1), ?_⟩
    have c1 := hC _ _ hw b1
    refine ⟨fun e => (by rw [r4] at e; cases e), fun x hx => ?_⟩
    rw [r4] at hx
    obtain rfl : x = i := by simpa using hx
    refine si1 v3 W1 _ c1 fun v W2 ac hac e1 b2 => hac ▸ ⟨.inr (hC _ _ c1 b2), ?_⟩
    have c2 := hC _ _ c1 b2
    rw [Array.setIfInBounds_comm _ _ (Ne.symm hik), ← Act.put_comm a v v3 dik]
    refine ⟨fun e => (by rw [r3] at e; cases e), fun x hx => ?_⟩
    rw [r3] at hx
    obtain rfl : x = j := by simpa using hx
    refine sj1 v v3 W2 _ c2 e1 fun v2 W3 ac hac e2 b3 => hac ▸ ⟨.inr (hC _ _ c2 b3), ?_⟩
    rw [Array.setIfInBounds_comm _ _ (Ne.symm hjk), ← Act.put_comm (a.put di v) v2 v3 djk]
    exact tail v v2 v3 W3 (hC _ _ c2 b3) (h1 _ _ _ e1 b3) e2 (h3 _ _ _ (h3 _ _ _ e3 b2) b3)
end
end Go.Proofs.Wd
