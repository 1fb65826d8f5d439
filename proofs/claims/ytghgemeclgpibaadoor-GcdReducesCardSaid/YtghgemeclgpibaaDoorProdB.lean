/- The walk of prod.plain. -/
import Derived.Test.YtghgemeclgpibaaDoorProdA
namespace Go.Proofs.Wd
open Go.RowKit Lb
attribute [local go_sem] Oper.semAt_some wide_fn wide_depth

/-- What the loop of plain keeps, s the heap's size at the call. -/
def PlainI (w : World) (la lb : List Nat) (na nb : Nat) (A' : Option Addr) (c' : Nat) (k : Nat) (W : World) : Prop :=
  ∃ (i : Nat) (lo : List Nat), cnt la i = k ∧ i ≤ na ∧ Arr W (w.heap.size + 1) lo ∧ lo.length = na + nb ∧ Lt lo ∧ (∀ x, i + nb ≤ x → lm lo x = 0) ∧ val lo = sm (lm la) i * val lb ∧
    Boxed W w.heap.size 23 (.slice A' nb c') ∧ Boxed W (w.heap.size + 1 + 1) 23 (.slice (some ⟨w.heap.size + 1, 0, none⟩) (na + nb) (na + nb)) ∧ Below w.heap.size w W ∧ w.heap.size + 4 ≤ W.heap.size

set_option maxRecDepth 100000 in
set_option maxHeartbeats 1000000 in
theorem plain_any (A : Option Addr) (n c : Nat) (l : List Nat) (A' : Option Addr) (n' c' : Nat) (l' : List Nat) (w : World) (h : Rd w A n c l) (h' : Rd w A' n' c' l') (ht : Lt l) (ht' : Lt l') (hn : n ≤ 100000) (hn' : n' ≤ 100000) :
    Calls Tryd.prog 88 #[.slice A n c, .slice A' n' c'] w (RetNat w (val l * val l')) := by
  have hle := h.le; have hcap := h.cap; have hle' := h'.le; have hcap' := h'.cap
  have HN := hid h.len; have HN' := hid h'.len
  have hmk : ∀ wx : World, (Instr.makeSlice 23 (.int .i64 ((n : Int) + (n' : Int))) (.int .i64 ((n : Int) + (n' : Int)))).run Tryd.prog wx = .ok (.slice (some ⟨wx.heap.size, 0, none⟩) (n + n') (n + n')) (wx.alloc (.cells (madeCells #[.int .u32 0] (n + n')) 49)) := fun wx => run_make32 (n + n') (by omega) wx
  refine calls_marks Tryd.func88 rfl ?_
  simp only [Tryd.ntmps88, List.size_toArray, List.length_cons, List.length_nil, Nat.reduceAdd, Nat.reduceSub, Array.replicate_succ, Array.replicate_zero, List.push_toArray, List.append_toArray, List.nil_append, List.cons_append]
  go_wp2_with (go_at_call 110; refine (plimbs_any A n c _).mono ?_; rintro e w2 ⟨rfl, rfl⟩)
  obtain ⟨W0, hW0⟩ : ∃ W0, ((((w.alloc (.cells #[.slice A' n' c'] 23)).alloc (.cells (madeCells #[.int .u32 0] (n + n')) 49)).alloc (.cells #[.slice (some ⟨w.heap.size + 1, 0, none⟩) (n + n') (n + n')] 23)).alloc (.cells #[.slice A n c] 23)) = W0 := ⟨_, rfl⟩
  have hsz : W0.heap.size = w.heap.size + 4 := by rw [← hW0]; simp
  have hB0 : Below w.heap.size w W0 := by rw [← hW0]; exact ((((Below.refl _ w).alloc (Nat.le_refl _) _).alloc (by simp) _).alloc (by simp; omega) _).alloc (by simp; omega) _
  have x0 : Boxed W0 w.heap.size 23 (.slice A' n' c') := by rw [← hW0]; exact (((Boxed.new w _ _).alloc _).alloc _).alloc _
  have x1 : Arr W0 (w.heap.size + 1) (List.replicate (n + n') 0) := by rw [← hW0]; exact ((arr_at _ _ (by simp)).alloc _).alloc _
  have x2 : Boxed W0 (w.heap.size + 1 + 1) 23 (.slice (some ⟨w.heap.size + 1, 0, none⟩) (n + n') (n + n')) := by rw [← hW0]; exact (boxed_at _ _ _ (by simp)).alloc _
  have x3 : Boxed W0 (w.heap.size + 1 + 1 + 1) 23 (.slice A n c) := by rw [← hW0]; exact boxed_at _ _ _ (by simp)
  rw [hW0]
  clear hW0
  have hSb : ∀ b, (b < w.heap.size ∨ b = w.heap.size + 1 + 1 + 1) → b < W0.heap.size := fun b hb => by omega
  have hown : ∀ C, w.heap.size ≤ C → OwnFrom C (PlainI w l l' n n' A' c') := by
    rintro C hC k W W' row ⟨i, lo, h1, h2, h3, h4, h5, h6, h7, h8, h9, h10, h11⟩ hg hr
    exact ⟨i, lo, h1, h2, h3.abide hg hr, h4, h5, h6, h7, boxed_abide h8 hg hr, boxed_abide h9 hg hr, below_abide h10 hg (Nat.le_refl _) hC hr, Nat.le_trans h11 hg.size⟩
  refine wp_rangeE (gf := 119) rfl (enters_of Tryd.func119 (by kernel_rfl) rfl)
    (plimbs1_iter A n c l (w.heap.size + 1 + 1 + 1) W0 (h.below hB0) ht x3.cell (S := fun b => b < w.heap.size ∨ b = w.heap.size + 1 + 1 + 1) hSb (fun b o hn0 e => .inl (h.in_ b o hn0 e))) ?hE ?hps KeepS.trans (keepS_b hSb)
    (PlainI w l l' n n' A' c') (hown _ hB0.size) (abide_mk (hown _ (Nat.le_refl _))) Mk.keeps (fun _ _ _ _ _ _ _ _ => trivial)
    ⟨0, List.replicate (n + n') 0, rfl, Nat.zero_le _, x1, by simp, Lt_replicate _, fun x _ => by unfold lm; rw [List.getElem?_replicate]; split <;> rfl, by rw [val_replicate]; simp [sm], x0, x2, hB0, Nat.le_of_eq hsz.symm⟩
    (fun xs => { tmps := #[.slice A n c, .slice A' n' c', undef, .pointer (some ⟨w.heap.size, 0, none⟩), .slice none 0 0, .pointer (some ⟨w.heap.size + 1 + 1, 0, none⟩), xs.getD 0 undef, xs.getD 1 undef, undef, undef, undef, .slice A n c, .int .i64 (n : Int), .slice A' n' c', .int .i64 (n' : Int), .int .i64 ((n : Int) + (n' : Int)), .slice (some ⟨w.heap.size + 1, 0, none⟩) (n + n') (n + n'), .slice A n c, .func (.func 119) #[] #[.pointer (some ⟨w.heap.size + 1 + 1 + 1, 0, none⟩)], xs.getD 0 undef, xs.getD 1 undef, undef, undef, undef, undef, undef, undef, undef, undef, undef, undef, undef, undef, undef, undef, undef, undef, undef, undef, undef, undef, undef, undef, undef, undef, undef, undef, undef, undef, undef, undef, undef, undef, undef, undef, undef, undef, undef, undef, undef, undef, undef], defers := [] }) ?assign ?body ?done
  case hE => exact fun k xs W l1 o o' hx _ _ => hx
  case hps =>
    rintro k xs W ⟨p, rfl, _⟩
    rfl
  case assign =>
    rintro lp k xs W K ⟨p, rfl, _⟩ hK
    gi_wp2
    exact hK
  case body =>
    rintro lp k xs W hk ⟨i, lo, hci, hi, ha, hlo, hlt, hz, hv, hb, hq, hB, h4⟩ ⟨p, rfl, hp, hp0, hcp⟩
    have hip : i ≤ p := by
      rcases Nat.lt_or_ge p i with e | e
      · exfalso
        have g1 := cnt_one (l := l) (j := p) hp0
        have g2 := cnt_mono (l := l) (i := p + 1) (j := i) e
        omega
      · exact e
    have hsm : sm (lm l) p = sm (lm l) i := cnt_same (by rw [hcp, hci])
    have HV : Hid (val lo = sm (lm l) p * val l') := by rw [hsm]; exact hv
    have HZ : Hid (∀ x, p + n' ≤ x → lm lo x = 0) := fun x hx => hz x (by omega)
    have HC := hid (show cnt l (p + 1) = k + 1 from by rw [cnt_one hp0, hcp])
    clear hv hz hsm hci hip hi hcp
    have x1 := lm_BB ht p
    simp only [BB] at x1
    obtain ⟨ai, hai⟩ : ∃ a, lm l p = a := ⟨_, rfl⟩
    have HAI := hid hai
    simp only [hai]
    rw [hai] at x1
    clear hai hp0
    have hcb := hb.cell
    obtain ⟨Wo, hWo⟩ : ∃ Wo, W = Wo := ⟨_, rfl⟩
    subst hWo
    gi_wp2
    gi_loopw [8, 23] (fun ov k2 wr => MulI w (w.heap.size + 1) (n + n') p ai lo l' n' ov k2 wr ∧ Boxed wr w.heap.size 23 (.slice A' n' c') ∧ Boxed wr (w.heap.size + 1 + 1) 23 (.slice (some ⟨w.heap.size + 1, 0, none⟩) (n + n') (n + n')) ∧ KeepsOthers W wr ∧ KeepS (fun b => b < w.heap.size ∨ b = w.heap.size + 1 + 1 + 1) W wr ∧ w.heap.size + 4 ≤ wr.heap.size) (fun _ k2 _ => n' - (intOf k2).toNat)
    case atStart => exact ⟨⟨0, 0, lo, Nat.zero_le _, rfl, rfl, by omega, ha, hlo, hlt, fun _ _ => rfl, by simp [win, sm], hB⟩, hb, hq, KeepsOthers.refl _, KeepS.refl _ _, h4⟩
    case round =>
      obtain ⟨⟨k2, ov, l2, hk2, rfl, rfl, hov, ha2, hl2, hlt2, hout, heq, hB2⟩, hb2, hq2, hko, hks, h42⟩ := hrel
      have HQ := hid heq
      have HO := hid hout
      clear heq hout
      have hcq := hq2.cell
      have hcb2 := hb2.cell
      by_cases hkn : k2 < n'
      · obtain ⟨b', o', rfl, hcb'⟩ := (h'.below hB2).cells k2 hkn
        have x2 := lm_BB ht' k2
        simp only [BB] at x2
        obtain ⟨bk, hbk⟩ : ∃ a, lm l' k2 = a := ⟨_, rfl⟩
        rw [hbk] at x2 hcb'
        have gr := ha2.cell (i := p + k2) (by omega)
        have gf := ha2.frozen (p + k2)
        have hold1 : lm l2 (p + k2) = lm lo (p + k2) := HO.out _ (.inr (Nat.le_refl _))
        have x3 := lm_BB hlt2 (p + k2)
        simp only [BB] at x3
        obtain ⟨old, hold⟩ : ∃ a, lm l2 (p + k2) = a := ⟨_, rfl⟩
        rw [hold] at gr x3 hold1
        obtain ⟨q, s, z, u, hq1, hq2', hq3, hs, hs2, hz1, hu1, hz2, hu2, hm⟩ := mul_step ai bk old ov x1 x2 x3 hov
        have hmi : (ai : Int) * (bk : Int) = (q : Int) := by rw [← hq1, Int.natCast_mul]
        have hsi : (ov : Int) + ((q : Int) + (old : Int)) = (s : Int) := by omega
        have HB1 := hid hbk; have HOL := hid hold1; have HM := hid hm
        clear hbk hold hold1 hm hq1 hs
        have hend : MulI w (w.heap.size + 1) (n + n') p ai lo l' n' (.int .u64 (u : Int)) (.int .i64 ((k2 : Int) + 1)) (wr.setCell ⟨w.heap.size + 1, p + k2, none⟩ (.int .u32 (z : Int))) := by
          refine ⟨k2 + 1, u, l2.set (p + k2) z, by omega, by go_num, rfl, hu2, ha2.set _ _, by rw [List.length_set]; exact hl2, Lt_set hlt2 hz2, fun y hy => ?_, ?_, hB2.setCell (p := ⟨w.heap.size + 1, p + k2, none⟩) (by simp) _⟩
          · rw [lm_set (by omega), if_neg (by omega)]
            exact HO.out y (by omega)
          · have e1 : lm (l2.set (p + k2) z) (p + k2) = z := by rw [lm_set (by omega), if_pos rfl]
            rw [win_succ, win_succ, win_set, e1, ← HOL.out, Nat.pow_succ]
            show _ + _ * (BB ^ k2 * 4294967296) = _ + ai * (sm (lm l') k2 + lm l' k2 * BB ^ k2)
            rw [HB1.out]
            exact mul_math HQ.out HM.out
        have HE := hid hend
        clear hend
        gi_wp2
        go_roundw
        case rel => exact ⟨HE.out, boxed_far hb2 (p := ⟨w.heap.size + 1, p + k2, none⟩) (by simp) _, boxed_far hq2 (p := ⟨w.heap.size + 1, p + k2, none⟩) (by simp) _, hko.trans (KeepsOthers.setCell _ _ _), hks.setCell (p := ⟨w.heap.size + 1, p + k2, none⟩) (by simp) _, by rw [← size_setCell]; exact h42⟩
        case measure => simp [intOf]; omega
      · obtain rfl : k2 = n' := by omega
        have gf := ha2.frozen (p + k2)
        have gr := ha2.cell (i := p + k2) (by omega)
        have ho32 : (ov : Int) % 4294967296 = (ov : Int) := by omega
        have hend : PlainI w l l' n k2 A' c' (k + 1) (wr.setCell ⟨w.heap.size + 1, p + k2, none⟩ (.int .u32 (ov : Int))) := by
          refine ⟨p + 1, l2.set (p + k2) ov, HC.out, by omega, ha2.set _ _, by rw [List.length_set]; exact hl2, Lt_set hlt2 hov, fun x hx => ?_, ?_, boxed_far hb2 (p := ⟨w.heap.size + 1, p + k2, none⟩) (by simp) _, boxed_far hq2 (p := ⟨w.heap.size + 1, p + k2, none⟩) (by simp) _, hB2.setCell (p := ⟨w.heap.size + 1, p + k2, none⟩) (by simp) _, by rw [← size_setCell]; exact h42⟩
          · rw [lm_set (by omega), if_neg (by omega), HO.out x (by omega)]
            exact HZ.out x (by omega)
          · show _ = (sm (lm l) p + lm l p * BB ^ p) * val l'
            rw [HAI.out]
            exact prod_next hlo hl2 (by omega) HO.out HZ.out HN'.out HQ.out HV.out
        have HE := hid hend
        clear hend
        gi_wp2
        exact ⟨(hko.trans (KeepsOthers.setCell _ _ _)).from _, hks.setCell (p := ⟨w.heap.size + 1, p + k2, none⟩) (by simp) _, HE.out⟩
  case done =>
    rintro D W hD ⟨i, lo, hci, hi, ha, hlo, hlt, hz, hv, hb, hq, hB, h4⟩ _ hd
    have hfin : val lo = val l * val l' := by
      rw [hv, cnt_same hci]
      have : sm (lm l) n = val l := by have := HN.out; unfold val; rw [this]
      rw [this]
    have htr := trim_any (some ⟨w.heap.size + 1, 0, none⟩) (n + n') (n + n') lo W (ha.rd hlo (by omega)) hlt (by omega)
    rw [hfin] at htr
    have hcq := hq.cell
    clear hfin hv hci
    go_wp2_with (go_at_call 50; refine htr.mono ?_; rintro e w3 ⟨A3, n3, c3, l3, rfl, hi3, hr3, hb3⟩)
    have hM : Marks w.heap.size w3 [mark D] [D] := ((Marks.nil w.heap.size W).more (D := D) (by simp) (by omega) hd).made hb3
    refine leaves_marks w3 (fun w' _ => results_tmp rfl _ _ w') [D] _ _ hM (Oth.refl _ _) ?_
    intro w' ho
    exact ⟨A3, n3, c3, l3, rfl, hi3, hr3.oth ho, below_oth (hB.trans (hb3.mono hB.size)) ho (Nat.le_refl _)⟩
end Go.Proofs.Wd
