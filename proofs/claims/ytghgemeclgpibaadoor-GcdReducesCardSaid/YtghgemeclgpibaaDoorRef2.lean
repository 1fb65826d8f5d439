/- The walk of straitref02.Mul. -/
import Derived.Test.YtghgemeclgpibaaDoorKnuthB
import Derived.Test.YtghgemeclgpibaaDoorRefA
import Derived.BigQuiet
namespace Go.Proofs.Wd
open Go.RowKit Lb

theorem val_win (l : List Nat) (p k : Nat) (h : p + k ≤ l.length) : val l = sm (lm l) p + BB ^ p * win l p k + BB ^ (p + k) * val (l.drop (p + k)) := by
  rw [val_take_drop l (p + k) h, val_take h, sm_add]
  rfl
/-- Two rows that differ in a window alone. -/
theorem win_diff {l l' : List Nat} {p k : Nat} (hl : l'.length = l.length) (h : p + k ≤ l.length) (ho : ∀ x, x < p ∨ p + k ≤ x → lm l' x = lm l x) : val l' + BB ^ p * win l p k = val l + BB ^ p * win l' p k := by
  rw [val_win l p k h, val_win l' p k (by omega)]
  have e1 : sm (lm l') p = sm (lm l) p := sm_congr fun i hi => ho i (.inl hi)
  have e2 : val (l'.drop (p + k)) = val (l.drop (p + k)) := by
    unfold val
    rw [List.length_drop, List.length_drop, hl]
    exact sm_congr fun i _ => by rw [lm_drop, lm_drop]; exact ho _ (.inr (by omega))
  rw [e1, e2]
  omega
theorem mul_math {so sn a sb x o old z o' P : Nat} (h : sn + o * P = so + a * sb) (hz : a * x + old + o = z + o' * 4294967296) : sn + z * P + o' * (P * 4294967296) = so + old * P + a * (sb + x * P) := by
  have e1 : a * x * P + old * P + o * P = z * P + o' * 4294967296 * P := by rw [← Nat.add_mul, ← Nat.add_mul, hz, Nat.add_mul]
  have e2 : o' * (P * 4294967296) = o' * 4294967296 * P := by rw [Nat.mul_comm P, ← Nat.mul_assoc]
  have e3 : a * (sb + x * P) = a * sb + a * x * P := by rw [Nat.mul_add, ← Nat.mul_assoc]
  rw [e2, e3]
  omega
theorem mul_step (a x old o : Nat) (ha : a < 4294967296) (hx : x < 4294967296) (hold : old < 4294967296) (ho : o < 4294967296) :
    ∃ p s z o' : Nat, a * x = p ∧ p < 18446744073709551616 ∧ p + old < 18446744073709551616 ∧ p + old + o = s ∧ s < 18446744073709551616 ∧ (s : Int) % 4294967296 = (z : Int) ∧ (s : Int) / 4294967296 = (o' : Int) ∧ z < 4294967296 ∧ o' < 4294967296 ∧ a * x + old + o = z + o' * 4294967296 := by
  have h1 : a * x ≤ 4294967295 * 4294967295 := Nat.mul_le_mul (by omega) (by omega)
  exact ⟨a * x, a * x + old + o, (a * x + old + o) % 4294967296, (a * x + old + o) / 4294967296, rfl, by omega, by omega, rfl, by omega, by omega, by omega, by omega, by omega, by omega⟩

/-- A row of limbs times one limb, added from a place on. -/
def MulI (w : World) (Q N i a : Nat) (lo lb : List Nat) (nb : Nat) (ov ix : Value) (W : World) : Prop :=
  ∃ (k o : Nat) (l' : List Nat), k ≤ nb ∧ ix = .int .i64 k ∧ ov = .int .u64 o ∧ o < 4294967296 ∧ Arr W Q l' ∧ l'.length = N ∧ Lt l' ∧ (∀ x, x < i ∨ i + k ≤ x → lm l' x = lm lo x) ∧
    win l' i k + o * BB ^ k = win lo i k + a * sm (lm lb) k ∧ Below w.heap.size w W
/-- A product on its way: the first i limbs are done. -/
def ProdI (w : World) (Q N : Nat) (la lb : List Nat) (na nb : Nat) (ix : Value) (W : World) : Prop :=
  ∃ (i : Nat) (lo : List Nat), i ≤ na ∧ ix = .int .i64 i ∧ Arr W Q lo ∧ lo.length = N ∧ Lt lo ∧ (∀ x, i + nb ≤ x → lm lo x = 0) ∧ val lo = sm (lm la) i * val lb ∧ Below w.heap.size w W

theorem prod_next {lo l' lb : List Nat} {i nb N a o sa : Nat} (hlo : lo.length = N) (hl' : l'.length = N) (hN : i + nb < N) (ho : ∀ x, x < i ∨ i + nb ≤ x → lm l' x = lm lo x) (hz : ∀ x, i + nb ≤ x → lm lo x = 0) (hb : lb.length = nb)
    (hw : win l' i nb + o * BB ^ nb = win lo i nb + a * sm (lm lb) nb) (hv : val lo = sa * val lb) : val (l'.set (i + nb) o) = (sa + a * BB ^ i) * val lb := by
  have hd := win_diff (l := lo) (l' := l'.set (i + nb) o) (p := i) (k := nb + 1) (by rw [List.length_set, hl', hlo]) (by omega) (fun x hx => by
    rw [lm_set (by omega), if_neg (by omega)]
    exact ho x (by omega))
  have e1 : win (l'.set (i + nb) o) i (nb + 1) = win l' i nb + o * BB ^ nb := by
    rw [win_succ, win_set, lm_set (by omega), if_pos rfl]
  have e2 : win lo i (nb + 1) = win lo i nb := by rw [win_succ, hz _ (Nat.le_refl _), Nat.zero_mul, Nat.add_zero]
  have e3 : sm (lm lb) nb = val lb := by unfold val; rw [hb]
  rw [e1, e2, hw, e3, Nat.mul_add] at hd
  rw [Nat.add_mul, ← hv]
  have e4 : a * BB ^ i * val lb = BB ^ i * (a * val lb) := by rw [Nat.mul_comm a, Nat.mul_assoc]
  omega

set_option maxHeartbeats 1000000 in
theorem rmul_any (A : Option Addr) (n c : Nat) (l : List Nat) (A' : Option Addr) (n' c' : Nat) (l' : List Nat) (w : World) (h : Rd w A n c l) (h' : Rd w A' n' c' l') (ht : Lt l) (ht' : Lt l') (hn : n ≤ 100000) (hn' : n' ≤ 100000) :
    Calls Tryd.prog 14 #[.slice A n c, .slice A' n' c'] w (RetNat w (val l * val l')) := by
  have hle := h.le; have hcap := h.cap; have hle' := h'.le; have hcap' := h'.cap
  have HN := hid h.len; have HN' := hid h'.len
  have hmk : ∀ wx : World, (Instr.makeSlice 23 (.int .i64 ((n : Int) + (n' : Int))) (.int .i64 ((n : Int) + (n' : Int)))).run Tryd.prog wx = .ok (.slice (some ⟨wx.heap.size, 0, none⟩) (n + n') (n + n')) (wx.alloc (.cells (madeCells #[.int .u32 0] (n + n')) 49)) := fun wx => run_make32 (n + n') (by omega) wx
  go_enter Tryd.func14, Tryd.ntmps14
  go_wp2
  go_loopw [6] (ProdI w w.heap.size (n + n') l l' n n') (fun i _ => n - (intOf i).toNat)
  case atStart => exact ⟨0, List.replicate (n + n') 0, Nat.zero_le _, rfl, Arr.new w _, by simp, Lt_replicate _, fun x _ => by unfold lm; rw [List.getElem?_replicate]; split <;> rfl, by rw [val_replicate]; simp [sm], (Below.refl _ w).alloc (Nat.le_refl _) _⟩
  case round =>
    obtain ⟨i, lo, hi, rfl, ha, hlo, hlt, hz, hv, hB⟩ := hrel
    have HV := hid hv
    have HZ := hid hz
    clear hv hz
    have hr := h.below hB; have hr' := h'.below hB
    by_cases hin : i < n
    · obtain ⟨b, o, rfl, hcb⟩ := h.cells i hin
      have x1 := lm_BB ht i
      simp only [BB] at x1
      obtain ⟨ai, hai⟩ : ∃ a, lm l i = a := ⟨_, rfl⟩
      rw [hai] at x1 hcb
      have HAI := hid hai
      clear hai
      rename World => wo
      go_wp2
      go_loopw [7, 8] (MulI w w.heap.size (n + n') i ai lo l' n') (fun _ k _ => n' - (intOf k).toNat)
      case atStart => exact ⟨0, 0, lo, Nat.zero_le _, rfl, rfl, by omega, ha, hlo, hlt, fun _ _ => rfl, by simp [win, sm], hB⟩
      case round =>
        obtain ⟨k, ov, l2, hk, rfl, rfl, hov, ha2, hl2, hlt2, hout, heq, hB2⟩ := hrel
        have HQ := hid heq
        have HO := hid hout
        clear heq hout
        have hbr : w.heap.size ≤ wr.heap.size := hB2.size
        have hca : wr.cell? ⟨b, o + i, none⟩ = some (.int .u32 (ai : Int)) := (hB2.cell (p := ⟨b, o + i, none⟩) (lt_of_cell hcb)).trans hcb
        by_cases hkn : k < n'
        · obtain ⟨b', o', rfl, hcb'⟩ := (h'.below hB2).cells k hkn
          have x2 := lm_BB ht' k
          simp only [BB] at x2
          obtain ⟨bk, hbk⟩ : ∃ a, lm l' k = a := ⟨_, rfl⟩
          rw [hbk] at x2 hcb'
          have gr := ha2.cell (i := i + k) (by omega)
          have gf := ha2.frozen (i + k)
          have hold1 : lm l2 (i + k) = lm lo (i + k) := HO.out _ (.inr (Nat.le_refl _))
          have x3 := lm_BB hlt2 (i + k)
          simp only [BB] at x3
          obtain ⟨old, hold⟩ : ∃ a, lm l2 (i + k) = a := ⟨_, rfl⟩
          rw [hold] at gr x3 hold1
          obtain ⟨p, s, z, u, hp, hp2, hp3, hs, hs2, hz1, hu1, hz2, hu2, hm⟩ := mul_step ai bk old ov x1 x2 x3 hov
          have hmi : (ai : Int) * (bk : Int) = (p : Int) := by rw [← hp, Int.natCast_mul]
          have hsi : (p : Int) + (old : Int) + (ov : Int) = (s : Int) := by omega
          have HB1 := hid hbk; have HOL := hid hold1; have HM := hid hm
          clear hbk hold hold1 hm hp hs
          have hend : ∀ nq : Nat, MulI w w.heap.size (n + n') i ai lo l' n' (.int .u64 (u : Int)) (.int .i64 ((k : Int) + 1)) ((wr.drewN nq).setCell ⟨w.heap.size, i + k, none⟩ (.int .u32 (z : Int))) := by
            intro nq
            have ha3 : Arr (wr.drewN nq) w.heap.size l2 := ha2.kept rfl
            refine ⟨k + 1, u, l2.set (i + k) z, by omega, by go_num, rfl, hu2, ha3.set _ _, by rw [List.length_set]; exact hl2, Lt_set hlt2 hz2, fun y hy => ?_, ?_, (Below.setCell (show Below w.heap.size w (wr.drewN nq) from ⟨hB2.os, hB2.tape, hB2.output, hB2.size, hB2.block⟩) (p := ⟨w.heap.size, i + k, none⟩) (Nat.le_refl _) _)⟩
            · rw [lm_set (by omega), if_neg (by omega)]
              exact HO.out y (by omega)
            · have e1 : lm (l2.set (i + k) z) (i + k) = z := by rw [lm_set (by omega), if_pos rfl]
              rw [win_succ, win_succ, win_set, e1, ← HOL.out, Nat.pow_succ]
              show _ + _ * (BB ^ k * 4294967296) = _ + ai * (sm (lm l') k + lm l' k * BB ^ k)
              rw [HB1.out]
              exact mul_math HQ.out HM.out
          have HE := hid hend
          clear hend
          go_wp2
          go_quiet (fail)
          go_wp2
          go_roundw
          case rel => exact HE.out _
          case measure => simp [intOf]; omega
        · obtain rfl : k = n' := by omega
          have gf := ha2.frozen (i + k)
          have gr := ha2.cell (i := i + k) (by omega)
          have ho32 : (ov : Int) % 4294967296 = (ov : Int) := by omega
          have hend : ProdI w w.heap.size (n + k) l l' n k (.int .i64 ((i : Int) + 1)) (wr.setCell ⟨w.heap.size, i + k, none⟩ (.int .u32 (ov : Int))) := by
            refine ⟨i + 1, l2.set (i + k) ov, by omega, by go_num, ha2.set _ _, by rw [List.length_set]; exact hl2, Lt_set hlt2 hov, fun x hx => ?_, ?_, hB2.setCell (p := ⟨w.heap.size, i + k, none⟩) (Nat.le_refl _) _⟩
            · rw [lm_set (by omega), if_neg (by omega), HO.out x (by omega)]
              exact HZ.out x (by omega)
            · show _ = (sm (lm l) i + lm l i * BB ^ i) * val l'
              rw [HAI.out]
              exact prod_next hlo hl2 (by omega) HO.out HZ.out HN'.out HQ.out HV.out
          have HE := hid hend
          clear hend
          go_wp2
          go_roundw
          case rel => exact HE.out
          case measure => simp [intOf]; omega
    · obtain rfl : i = n := by omega
      have hfin : val lo = val l * val l' := by
        rw [HV.out]
        have : sm (lm l) i = val l := by have := HN.out; unfold val; rw [this]
        rw [this]
      have htr := rtrim_any (some ⟨w.heap.size, 0, none⟩) (i + n') (i + n') lo wr (ha.rd hlo (by omega)) hlt (by omega)
      rw [hfin] at htr
      clear hfin
      go_wp2_with (go_at_call 15; refine htr.mono ?_; rintro e w2 ⟨A2, n2, c2, l2, rfl, hi2, hr2, hb2⟩)
      go_ret
      exact ⟨A2, n2, c2, l2, rfl, hi2, hr2, hB.trans (hb2.mono hB.size)⟩
end Go.Proofs.Wd
