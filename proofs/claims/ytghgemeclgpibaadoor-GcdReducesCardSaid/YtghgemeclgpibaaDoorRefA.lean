/- Walks of the reference's layer 1: limb, Trim, Of, Cmp, Same, two, Add, Sub, Small. -/
import Derived.Test.YtghgemeclgpibaaDoorNatD
import Derived.Deep.DeepMust
namespace Go.Proofs.Wd
open Go.RowKit Lb

set_option maxHeartbeats 400000 in
theorem rlimb_any (A : Option Addr) (n c : Nat) (l : List Nat) (i : Int) (w : World) (h : Rd w A n c l) (ht : Lt l) (h0 : 0 ≤ i) :
    Calls Tryd.prog 57 #[.slice A n c, .int .i64 i] w fun e w' => e = .returned (.int .u64 (lm l i.toNat)) ∧ w = w' := by
  obtain ⟨k, rfl⟩ := Int.eq_ofNat_of_zero_le h0
  rw [Int.toNat_natCast]
  have hle := h.le; have hcap := h.cap
  have x := lm_BB ht k
  simp only [BB] at x
  by_cases hi : k < n
  · obtain ⟨b, o, rfl, hc⟩ := h.cells k hi
    go_enter Tryd.func57, Tryd.ntmps57
    go_wp2
    go_ret
    exact ⟨rfl, rfl⟩
  · rw [lm_ge (by rw [h.len]; omega)]
    go_enter Tryd.func57, Tryd.ntmps57
    go_wp2
    go_ret
    exact ⟨rfl, rfl⟩

set_option maxHeartbeats 400000 in
theorem rtrim_any (A : Option Addr) (n c : Nat) (l : List Nat) (w : World) (h : Rd w A n c l) (ht : Lt l) (hl : n ≤ 1099511627776) :
    Calls Tryd.prog 15 #[.slice A n c] w (RetNat w (val l)) := by
  have hle := h.le; have hcap := h.cap; have hlen := h.len
  have hown : Own32 (w.alloc (.cells #[] 49)) w.heap.size 49 (.slice (some ⟨w.heap.size, 0, none⟩) 0 0) [] := World.ownsRow_made (base := w.heap.size) (e := 49) (size := 1) w #[] 0 (Nat.le_refl _) (by unfold maxLen; omega) rfl
  have hbs : w.heap.size ≤ (w.alloc (.cells #[] 49)).heap.size := by simp
  go_enter Tryd.func15, Tryd.ntmps15
  go_wp2
  go_loop [3] (fun x => ∃ k : Nat, k ≤ n ∧ x = .int .i64 k ∧ (∀ i, k ≤ i → i < l.length → lm l i = 0)) (fun x => (intOf x).toNat)
  case atStart => exact ⟨n, Nat.le_refl _, rfl, fun i h1 h2 => by omega⟩
  case round =>
    obtain ⟨k, hk, rfl, hz⟩ := hrel
    have HZ := hid hz
    clear hz
    have hfin : ∀ w1 A1 c1, Own32 w1 w.heap.size 49 (.slice A1 k c1) ([] ++ l.take k) → (k = 0 ∨ lm l (k - 1) ≠ 0) → (w.alloc (.cells #[] 49)).grownBy w1 (Value.ownBlock (.slice (some ⟨w.heap.size, 0, none⟩) 0 0)) → RetNat w (val l) (.returned (.slice A1 k c1)) w1 := by
      intro w1 A1 c1 h1 h2 h3
      rw [List.nil_append] at h1
      exact ⟨A1, k, c1, l.take k, rfl, ⟨Lt_take ht _, trim_take l k (by omega) HZ.out h2, val_take_of_zero (by omega) HZ.out⟩, h1.rd, Own32.grown ((Below.refl w.heap.size w).alloc (Nat.le_refl _) _) hown h3 (Nat.le_refl _) hbs⟩
    have HF := hid hfin
    clear hfin
    have hs1 : ([] : List Nat).length + (l.take k).length ≤ 17592186044416 := by simp; omega
    have hl1 : ([] ++ l.take k).length = k := by simp; omega
    by_cases h0 : 0 < k
    · obtain ⟨b, o, rfl, hc⟩ := h.cells (k - 1) (by omega)
      have e1 : (((k : Int) - 1)).toNat = k - 1 := by omega
      by_cases hx : lm l (k - 1) = 0
      · go_wp2
        go_round
        case rel => exact ⟨k - 1, by omega, by congr 1; omega, fun i h1 h2 => by
          by_cases e : i = k - 1
          · subst e; exact hx
          · exact HZ.out i (by omega) h2⟩
        case measure => simp [intOf]; omega
      · have hx2 : ((lm l (k - 1) : Int) == 0) = false := by simpa using hx
        have HX := hid hx
        clear hx
        have hr1 : Rd (w.alloc (.cells #[] 49)) (some ⟨b, o, none⟩) k c (l.take k) := (h.take hk (by omega) (Nat.le_refl _)).alloc _
        go_wp2_with (at_builtin; go_must (refine wpList_append_rd rfl _ _ 23 49 rfl u32_under u32_info w.heap.size _ [] rfl hown _ k c (l.take k) rfl hr1 hs1 hbs ?_; intro v1 w1 hown1 hg1 hat1; obtain ⟨A1, c1, rfl⟩ := hown1.form' hl1))
        go_ret
        exact HF.out w1 A1 c1 hown1 (.inr HX.out) hg1
    · obtain rfl : k = 0 := by omega
      cases A with
      | none =>
        obtain ⟨rfl, rfl, rfl⟩ := h.empty
        go_wp2_with (at_builtin; go_must (refine wpList_append_rd rfl _ _ 23 49 rfl u32_under u32_info w.heap.size _ [] rfl hown _ 0 0 [] rfl (Rd.nil_ _) hs1 hbs ?_; intro v1 w1 hown1 hg1 hat1; obtain ⟨A1, c1, rfl⟩ := hown1.form' hl1))
        go_ret
        exact HF.out w1 A1 c1 hown1 (.inl (by simp)) hg1
      | some ad =>
        have hr1 : Rd (w.alloc (.cells #[] 49)) (some ad) 0 c (l.take 0) := (h.take hk (by omega) (Nat.le_refl _)).alloc _
        go_wp2_with (at_builtin; go_must (refine wpList_append_rd rfl _ _ 23 49 rfl u32_under u32_info w.heap.size _ [] rfl hown _ 0 c (l.take 0) rfl hr1 hs1 hbs ?_; intro v1 w1 hown1 hg1 hat1; obtain ⟨A1, c1, rfl⟩ := hown1.form' hl1))
        go_ret
        exact HF.out w1 A1 c1 hown1 (.inl (by simp)) hg1

set_option maxHeartbeats 400000 in
theorem rof_any (x : Nat) (hx : x < 18446744073709551616) (w : World) :
    Calls Tryd.prog 93 #[.int .u64 x] w (RetNat w x) := by
  have hr := Rd.new w [x % 4294967296, x / 4294967296] 49 #[.int .u32 ((x : Int) % 4294967296), .int .u32 ((x : Int) / 4294967296)] (by simp [u32s]) (by simp)
  have hlt : Lt [x % 4294967296, x / 4294967296] := by
    intro y hy
    simp at hy
    rcases hy with rfl | rfl <;> unfold BB <;> omega
  have hv : val [x % 4294967296, x / 4294967296] = x := by rw [val_two]; omega
  go_enter Tryd.func93, Tryd.ntmps93
  go_wp2_with (go_at_call 15; refine (rtrim_any _ 2 2 _ _ hr hlt (by omega)).mono ?_; rintro e w1 ⟨A1, n1, c1, l1, rfl, hi1, hr1, hb1⟩)
  go_ret
  rw [hv] at hi1
  exact ⟨A1, n1, c1, l1, rfl, hi1, hr1, ((Below.refl _ w).alloc (Nat.le_refl _) _).trans (hb1.mono (by simp))⟩

set_option maxHeartbeats 400000 in
theorem rcmp_any (A : Option Addr) (n c : Nat) (l : List Nat) (A' : Option Addr) (n' c' : Nat) (l' : List Nat) (w : World) (h : Rd w A n c l) (h' : Rd w A' n' c' l') (ht : Lt l) (ht' : Lt l') :
    Calls Tryd.prog 20 #[.slice A n c, .slice A' n' c'] w fun e w' => e = .returned (.int .i64 (cmpOf (val l) (val l'))) ∧ w = w' := by
  have hle := h.le; have hcap := h.cap; have hle' := h'.le; have hcap' := h'.cap
  have HN : Hid (l.length = n ∧ l'.length = n') := ⟨h.len, h'.len⟩
  by_cases hnn : n < n'
  all_goals
    go_enter Tryd.func20, Tryd.ntmps20
    go_wp2
    go_loop [5] (fun x => ∃ k : Nat, k ≤ 9223372036854775807 ∧ x = .int .i64 ((k : Int) - 1) ∧ Hid (∃ N, l.length ≤ N ∧ l'.length ≤ N ∧ k ≤ N ∧ ∀ j, k ≤ j → j < N → lm l j = lm l' j)) (fun x => (intOf x + 1).toNat)
    case atStart => first | exact ⟨n', by omega, rfl, hid ⟨n', by have := HN.out; omega, by have := HN.out; omega, Nat.le_refl _, fun j h1 h2 => by omega⟩⟩ | exact ⟨n, by omega, rfl, hid ⟨n, by have := HN.out; omega, by have := HN.out; omega, Nat.le_refl _, fun j h1 h2 => by omega⟩⟩
    case round =>
      obtain ⟨k, _hk, rfl, HK⟩ := hrel
      by_cases h0 : 0 < k
      · have e1 : ((k : Int) - 1).toNat = k - 1 := by omega
        by_cases h1 : lm l (k - 1) < lm l' (k - 1)
        · have HV : Hid (cmpOf (val l) (val l') = -1) := by
            obtain ⟨N, a1, a2, a3, a4⟩ := HK.out
            exact cmpOf_lt (val_less ht a1 a2 h0 a3 a4 h1)
          go_wp2_with (go_at_call 57; first | ((with_reducible refine (rlimb_any A n c l _ _ h ht (by omega)).mono ?_); rintro e w1 ⟨rfl, rfl⟩) | ((with_reducible refine (rlimb_any A' n' c' l' _ _ h' ht' (by omega)).mono ?_); rintro e w1 ⟨rfl, rfl⟩))
          go_ret
          exact ⟨by rw [HV.out]; rfl, rfl⟩
        · by_cases h2 : lm l' (k - 1) < lm l (k - 1)
          · have HV : Hid (cmpOf (val l) (val l') = 1) := by
              obtain ⟨N, a1, a2, a3, a4⟩ := HK.out
              exact cmpOf_gt (val_less ht' a2 a1 h0 a3 (fun j b1 b2 => (a4 j b1 b2).symm) h2)
            go_wp2_with (go_at_call 57; first | ((with_reducible refine (rlimb_any A n c l _ _ h ht (by omega)).mono ?_); rintro e w1 ⟨rfl, rfl⟩) | ((with_reducible refine (rlimb_any A' n' c' l' _ _ h' ht' (by omega)).mono ?_); rintro e w1 ⟨rfl, rfl⟩))
            go_ret
            exact ⟨by rw [HV.out]; rfl, rfl⟩
          · go_wp2_with (go_at_call 57; first | ((with_reducible refine (rlimb_any A n c l _ _ h ht (by omega)).mono ?_); rintro e w1 ⟨rfl, rfl⟩) | ((with_reducible refine (rlimb_any A' n' c' l' _ _ h' ht' (by omega)).mono ?_); rintro e w1 ⟨rfl, rfl⟩))
            go_round
            case rel => exact ⟨k - 1, by omega, by congr 1; omega, by
              obtain ⟨N, a1, a2, a3, a4⟩ := HK.out
              exact hid ⟨N, a1, a2, by omega, fun j b1 b2 => by
                by_cases e : j = k - 1
                · subst e; omega
                · exact a4 j (by omega) b2⟩⟩
            case measure => simp [intOf]; omega
      · obtain rfl : k = 0 := by omega
        have HV : Hid (cmpOf (val l) (val l') = 0) := by
          obtain ⟨N, a1, a2, a3, a4⟩ := HK.out
          exact cmpOf_eq (val_same a1 a2 a4)
        go_wp2
        go_ret
        exact ⟨by rw [HV.out]; rfl, rfl⟩

theorem same_not {l l' : List Nat} {k : Nat} (h : lm l k ≠ lm l' k) : l ≠ l' := fun e => by subst e; exact h rfl
theorem same_all {l l' : List Nat} (hlen : l.length = l'.length) (h : ∀ j, j < l.length → lm l j = lm l' j) : l = l' :=
  List.ext_getElem hlen fun i h1 h2 => by
    have := h i h1
    rwa [lm_lt h1, lm_lt h2] at this

theorem drew_drew (w : World) (a b : Nat) : (w.drewN a).drewN b = w.drewN (a + b) := by
  simp only [World.drewN, Nat.add_assoc]

set_option maxHeartbeats 400000 in
theorem rsame_any (A : Option Addr) (n c : Nat) (l : List Nat) (A' : Option Addr) (n' c' : Nat) (l' : List Nat) (w : World) (h : Rd w A n c l) (h' : Rd w A' n' c' l') :
    Calls Tryd.prog 35 #[.slice A n c, .slice A' n' c'] w fun e w' => e = .returned (.bool (decide (l = l'))) ∧ ∃ nq, w' = w.drewN nq := by
  have hle := h.le; have hcap := h.cap; have hle' := h'.le; have hcap' := h'.cap
  have HN : Hid (l.length = n ∧ l'.length = n') := ⟨h.len, h'.len⟩
  by_cases hnn : n = n'
  · subst hnn
    go_enter Tryd.func35, Tryd.ntmps35
    go_wp2
    go_loopw [5] (fun x wr => ∃ k : Nat, k ≤ n ∧ x = .int .i64 k ∧ (∃ nq, wr = w.drewN nq) ∧ Hid (∀ j, j < k → lm l j = lm l' j)) (fun x _ => n - (intOf x).toNat)
    case atStart => exact ⟨0, Nat.zero_le _, rfl, ⟨0, rfl⟩, hid (fun j hj => by omega)⟩
    case round =>
      obtain ⟨k, hk, rfl, ⟨nq, rfl⟩, HK⟩ := hrel
      by_cases h0 : k < n
      · obtain ⟨b, o, rfl, hc⟩ := h.cells k h0
        obtain ⟨b', o', rfl, hc'⟩ := h'.cells k h0
        have h0' : (0 : Int) ≤ k := Int.natCast_nonneg k
        by_cases h1 : lm l k = lm l' k
        · have hx : ((lm l k : Int) != (lm l' k : Int)) = false := by rw [h1]; simp
          go_wp2
          go_quiet (fail)
          go_wp2
          go_roundw
          case rel => exact ⟨k + 1, by omega, by go_num, ⟨_, rfl⟩, hid (fun j hj => by
            by_cases e : j = k
            · subst e; exact h1
            · exact HK.out j (by omega))⟩
          case measure => simp [intOf]; omega
        · have hx : ((lm l k : Int) != (lm l' k : Int)) = true := by simp only [bne_iff_ne, ne_eq]; omega
          have HV : Hid (decide (l = l') = false) := hid (decide_eq_false (same_not h1))
          clear h1
          go_wp2
          go_quiet (fail)
          go_wp2
          go_ret
          exact ⟨by rw [HV.out]; rfl, _, drew_drew w _ _⟩
      · obtain rfl : k = n := by omega
        have HV : Hid (decide (l = l') = true) := hid (decide_eq_true (same_all (by have := HN.out; omega) (fun j hj => HK.out j (by have := HN.out; omega))))
        go_wp2
        go_ret
        exact ⟨by rw [HV.out]; rfl, _, rfl⟩
  · have hx : ((n : Int) != (n' : Int)) = true := by simp only [bne_iff_ne, ne_eq]; omega
    have HV : Hid (decide (l = l') = false) := hid (decide_eq_false (fun e => by subst e; have := HN.out; omega))
    clear hnn
    go_enter Tryd.func35, Tryd.ntmps35
    go_wp2
    go_ret
    exact ⟨by rw [HV.out]; rfl, 0, rfl⟩
end Go.Proofs.Wd
