/- Walks of straitref05: Add, Mul. -/
import Derived.Test.YtghgemeclgpibaaRef5B
import Derived.Test.YtghgemeclgpibaaVals
namespace Go.Proofs.Wd
open Go.RowKit Lb
attribute [local go_sem] Oper.semAt_some wide_fn wide_depth

/-- The product of the first k. -/
def iprod (is : List (Bool × List Nat)) : Nat → Int
  | 0 => 1
  | k + 1 => iprod is k * ivAt is k

/-- A sum or a product on its way. -/
def AccI (w : World) (B : Nat) (f : Nat → Int) (n : Nat) (ix : Value) (W : World) : Prop :=
  ∃ (k : Nat) (A : Option Addr) (m c : Nat) (l : List Nat), k ≤ n ∧ ix = .int .i64 k ∧ BoxN W B 25 #[.bool (decide (f k < 0)), .slice A m c] ∧ Is l (f k).natAbs ∧ Rd W A m c l ∧
    BoxN W w.heap.size 25 #[.bool false, .slice none 0 0] ∧ Below w.heap.size w W

set_option maxRecDepth 100000 in
set_option maxHeartbeats 1000000 in
theorem r5add_any (A : Option Addr) (n c : Nat) (is : List (Bool × List Nat)) (m M : Nat) (w : World) (h : IRdM m w A n is) (hn : n ≤ c) (hc : c ≤ 1000000) (hmM : m ≤ M) (hM : M ≤ 100000) (hv : ∀ k, k ≤ n → (isum is k).natAbs < BB ^ M) :
    Calls Try.prog 14 #[.slice A n c] w (RetInt w (isum is n)) := by
  have hmix : Try.prog.follows .mixedOrders = true := by kernel_rfl
  go_enter Try.func14, Try.ntmps14
  go_wp2
  go_loopw [4] (AccI w (w.heap.size + 1) (isum is) n) (fun i _ => n - (intOf i).toNat)
  case atStart => exact ⟨0, none, 0, 0, [], Nat.zero_le _, rfl, BoxN.at_ _ _ _ (by simp), Is.nil, Rd.nil_ _, (BoxN.new w _ _).alloc _, ((Below.refl _ w).alloc (Nat.le_refl _) _).alloc (by simp) _⟩
  case round =>
    obtain ⟨k, Ao, mo, co, lo, hk, rfl, hx1, hio, hro, hx0, hB⟩ := hrel
    obtain ⟨v, hvk⟩ : ∃ v, isum is k = v := ⟨_, rfl⟩
    have hvb := hv k hk
    rw [hvk] at hx1 hio hvb
    have hmo : mo ≤ M := by rw [← hro.len]; exact hio.len hvb
    have HV := hid hvk
    clear hvk
    by_cases hkn : k < n
    · obtain ⟨b, o, s, Ai, ni, ci, li, rfl, p1, p2, hi, hri, hli, hni⟩ := (h.below hB).cells k hkn
      have HI := hid hi
      clear hi
      have hb1 := hx1.lt
      go_wp2
      refine (wpIn_wide (n := 0)).1 ?_
      have cf : ∀ W, Below wr.heap.size wr W → (W.cell? ⟨w.heap.size + 1, 0, none⟩ = some (.bool (decide (v < 0))) ∧ W.cell? ⟨w.heap.size + 1, 1, none⟩ = some (.slice Ao mo co)) ∧ W.cell? ⟨b, o + k * 2, none⟩ = some (.bool s) ∧ W.cell? ⟨b, o + k * 2 + 1, none⟩ = some (.slice Ai ni ci) := fun W hb =>
        ⟨(hx1.kept hb).facts2.1, (hb.cell (p := ⟨b, o + k * 2, none⟩) (lt_of_cell p1)).trans p1, (hb.cell (p := ⟨b, o + k * 2 + 1, none⟩) (lt_of_cell p2)).trans p2⟩
      refine wpIn_region_C 7 (fun W => (W.cell? ⟨w.heap.size + 1, 0, none⟩ = some (.bool (decide (v < 0))) ∧ W.cell? ⟨w.heap.size + 1, 1, none⟩ = some (.slice Ao mo co)) ∧ W.cell? ⟨b, o + k * 2, none⟩ = some (.bool s) ∧ W.cell? ⟨b, o + k * 2 + 1, none⟩ = some (.slice Ai ni ci)) hmix ?_
      have d1 := cf _ (Below.refl _ wr).drew
      refine takeC (i := 0) (v := ?vv1) (by kernel_rfl) (by kernel_rfl) rfl (by kernel_rfl) (by kernel_rfl) (by kernel_rfl) (fun _ _ _ h => h) d1 ⟨.inl ⟨rfl, ?yy1⟩, fun _ => rfl⟩ ?_
      case yy1 =>
        rintro wx ⟨⟨q1, q2⟩, q3, q4⟩
        go_simp
        first | done | rfl
      refine takeC (i := 1) (v := ?vv2) (by kernel_rfl) (by kernel_rfl) rfl (by kernel_rfl) (by kernel_rfl) (by kernel_rfl) (fun _ _ _ h => h) d1 ⟨.inl ⟨rfl, ?yy2⟩, fun _ => rfl⟩ ?_
      case yy2 =>
        rintro wx ⟨⟨q1, q2⟩, q3, q4⟩
        go_simp
        first | done | rfl
      refine takeC (i := 2) (v := ?vv3) (by kernel_rfl) (by kernel_rfl) rfl (by kernel_rfl) (by kernel_rfl) (by kernel_rfl) (fun _ _ _ h => h) d1 ⟨.inl ⟨rfl, ?yy3⟩, fun _ => rfl⟩ ?_
      case yy3 =>
        rintro wx ⟨⟨q1, q2⟩, q3, q4⟩
        go_simp
        first | done | rfl
      refine takeC (i := 3) (v := ?vv4) (by kernel_rfl) (by kernel_rfl) rfl (by kernel_rfl) (by kernel_rfl) (by kernel_rfl) (fun _ _ _ h => h) d1 ⟨.inl ⟨rfl, ?yy4⟩, fun _ => rfl⟩ ?_
      case yy4 =>
        rintro wx ⟨⟨q1, q2⟩, q3, q4⟩
        go_simp
        first | done | rfl
      refine takeC (i := 4) (v := ?vv5) (by kernel_rfl) (by kernel_rfl) rfl (by kernel_rfl) (by kernel_rfl) (by kernel_rfl) (fun _ _ _ h => h) d1 ⟨.inl ⟨rfl, ?yy5⟩, fun _ => rfl⟩ ?_
      case yy5 =>
        rintro wx ⟨⟨q1, q2⟩, q3, q4⟩
        go_simp
        first | done | rfl
      have hnm := r5norm_any s Ai ni ci li wr.drew hri.drew hli (by omega)
      refine oneC (i := 5) (by kernel_rfl) rfl (fun K hK => ?_)
      go_simp
      refine CallsIn.mono (callsIn_wide.2 hnm) ?_
      rintro e w2 ⟨A2, n2, c2, l2, rfl, hi2, hr2, hb2⟩
      have hB2 : Below wr.heap.size wr w2 := (Below.refl _ wr).drew.trans hb2
      refine hK _ _ (.inr (cf _ hB2)) ?_
      clear hK K
      have hn2 : n2 ≤ M := by
        rw [← hr2.len]
        exact Nat.le_trans (hi2.len (iv_bound hli hri.len hni)) hmM
      have htw := r5two_any (decide (v < 0)) Ao mo co lo (decide (iv s li < 0)) A2 n2 c2 l2 w2 (hro.below hB2) hio.lt hr2 hi2.lt M hmo hn2 hM
      rw [iv_norm hio, iv_norm hi2] at htw
      have hsum : v + iv s li = isum is (k + 1) := by
        show _ = isum is k + ivAt is k
        rw [HV.out]
        unfold ivAt
        rw [HI.out]
        rfl
      have HS := hid hsum
      obtain ⟨v3, hv3⟩ : ∃ v3, v + iv s li = v3 := ⟨_, rfl⟩
      rw [hv3] at htw HS
      clear hsum
      refine oneC (i := 6) (by kernel_rfl) rfl (fun K hK => ?_)
      go_simp
      refine CallsIn.mono (callsIn_wide.2 htw) ?_
      rintro e w3 ⟨A3, n3, c3, l3, rfl, hi3, hr3, hb3⟩
      have hB3 : Below wr.heap.size wr w3 := hB2.trans (hb3.mono hB2.size)
      refine hK _ _ (.inr (cf _ hB3)) ?_
      clear hK K
      have hq := hx1.kept hB3
      obtain ⟨⟨m0, m1⟩, m2, m3⟩ := hq.facts2
      have hq0 := hx0.kept hB3
      refine oneC (i := 7) (by kernel_rfl) rfl (fun K hK => ?_)
      go_simp
      refine hK _ _ (.inl rfl) ?_
      clear hK K
      refine doneP (by kernel_rfl) ?_
      go_wp2
      go_roundw
      case rel =>
        have e1 := HS.out
        refine ⟨k + 1, A3, n3, c3, l3, by omega, by go_num, ?_, by rw [← e1]; exact hi3, (hr3.setN hq (i := 0) rfl (fun _ => by simp) _).setN (hq.set 0 _) (i := 1) rfl (fun _ => by simp) _, ?_, ?_⟩
        · rw [← e1]
          exact (hq.set 0 _).set 1 _
        · exact (hq0.other (p := ⟨w.heap.size + 1, 0, none⟩) (by simp) _).other (p := ⟨w.heap.size + 1, 1, none⟩) (by simp) _
        · exact ((hB.trans (hB3.mono hB.size)).setCell (p := ⟨w.heap.size + 1, 0, none⟩) (by simp) _).setCell (p := ⟨w.heap.size + 1, 1, none⟩) (by simp) _
      case measure => simp [intOf]; omega
    · obtain rfl : k = n := by omega
      obtain ⟨⟨g0, g1⟩, _, _⟩ := hx1.facts2
      have hnm := r5norm_any (decide (v < 0)) Ao mo co lo wr hro hio.lt (by omega)
      rw [iv_norm hio] at hnm
      go_wp2_with (go_at_call 16; refine hnm.mono ?_; rintro e w4 ⟨A4, n4, c4, l4, rfl, hi4, hr4, hb4⟩; have hq := hx0.kept hb4; obtain ⟨⟨m0, m1⟩, m2, m3⟩ := hq.facts2)
      obtain ⟨⟨c0, c1⟩, _, _⟩ := ((hq.set 0 (.bool (decide (v < 0)))).set 1 (.slice A4 n4 c4)).facts2
      refine bodyPost_ret (v := .agg #[.bool (decide (v < 0)), .slice A4 n4 c4]) (by simp [results, Try.results14, go_sem, c0, c1]) rfl ?_
      rw [HV.out]
      exact ret2 hq (hB.trans (hb4.mono hB.size)) (Nat.le_refl _) hi4 hr4

set_option maxRecDepth 100000 in
set_option maxHeartbeats 1000000 in
theorem r5mul_any (A : Option Addr) (n c : Nat) (is : List (Bool × List Nat)) (m M : Nat) (w : World) (h : IRdM m w A n is) (hn : n ≤ c) (hc : c ≤ 1000000) (hmM : m ≤ M) (hM : M ≤ 50000) (hv : ∀ k, k ≤ n → (iprod is k).natAbs < BB ^ M) :
    Calls Try.prog 15 #[.slice A n c] w (RetInt w (iprod is n)) := by
  have hmix : Try.prog.follows .mixedOrders = true := by kernel_rfl
  go_enter Try.func15, Try.ntmps15
  have hof := r5of_any 1 (by omega) (by omega) (w.alloc (.cells #[.bool false, .slice none 0 0] 25))
  go_wp2_with (go_at_call 32; refine hof.mono ?_; rintro e w0 ⟨A0, n0, c0, l0, rfl, hi0, hr0, hb0⟩)
  have hBs : w.heap.size < w0.heap.size := Nat.lt_of_lt_of_le (by simp) hb0.size
  have hst : AccI w w0.heap.size (iprod is) n (.int .i64 0) (w0.alloc (.cells #[.bool false, .slice A0 n0 c0] 25)) := by
    refine ⟨0, A0, n0, c0, l0, Nat.zero_le _, rfl, BoxN.at_ _ _ _ rfl, hi0, hr0.alloc _, ((BoxN.new w _ _).kept hb0).alloc _, ?_⟩
    have t1 := ((Below.refl _ w).alloc (Nat.le_refl _) (.cells #[.bool false, .slice none 0 0] 25)).trans (hb0.mono (by simp))
    exact t1.alloc t1.size _
  go_loopw [4] (AccI w w0.heap.size (iprod is) n) (fun i _ => n - (intOf i).toNat)
  case atStart => exact hst
  case round =>
    obtain ⟨k, Ao, mo, co, lo, hk, rfl, hx1, hio, hro, hx0, hB⟩ := hrel
    obtain ⟨v, hvk⟩ : ∃ v, iprod is k = v := ⟨_, rfl⟩
    have hvb := hv k hk
    rw [hvk] at hx1 hio hvb
    have hmo : mo ≤ M := by rw [← hro.len]; exact hio.len hvb
    have HV := hid hvk
    clear hvk
    by_cases hkn : k < n
    · obtain ⟨b, o, s, Ai, ni, ci, li, rfl, p1, p2, hi, hri, hli, hni⟩ := (h.below hB).cells k hkn
      have HI := hid hi
      clear hi
      go_wp2
      refine (wpIn_wide (n := 0)).1 ?_
      have cf : ∀ W, Below wr.heap.size wr W → (W.cell? ⟨w0.heap.size, 0, none⟩ = some (.bool (decide (v < 0))) ∧ W.cell? ⟨w0.heap.size, 1, none⟩ = some (.slice Ao mo co)) ∧ W.cell? ⟨b, o + k * 2, none⟩ = some (.bool s) ∧ W.cell? ⟨b, o + k * 2 + 1, none⟩ = some (.slice Ai ni ci) := fun W hb =>
        ⟨(hx1.kept hb).facts2.1, (hb.cell (p := ⟨b, o + k * 2, none⟩) (lt_of_cell p1)).trans p1, (hb.cell (p := ⟨b, o + k * 2 + 1, none⟩) (lt_of_cell p2)).trans p2⟩
      refine wpIn_region_C 18 (fun W => (W.cell? ⟨w0.heap.size, 0, none⟩ = some (.bool (decide (v < 0))) ∧ W.cell? ⟨w0.heap.size, 1, none⟩ = some (.slice Ao mo co)) ∧ W.cell? ⟨b, o + k * 2, none⟩ = some (.bool s) ∧ W.cell? ⟨b, o + k * 2 + 1, none⟩ = some (.slice Ai ni ci)) hmix ?_
      have d1 := cf _ (Below.refl _ wr).drew
      refine takeC (i := 0) (v := ?vv6) (by kernel_rfl) (by kernel_rfl) rfl (by kernel_rfl) (by kernel_rfl) (by kernel_rfl) (fun _ _ _ h => h) d1 ⟨.inl ⟨rfl, ?yy6⟩, fun _ => rfl⟩ ?_
      case yy6 =>
        rintro wx ⟨⟨q1, q2⟩, q3, q4⟩
        go_simp
        first | done | rfl
      refine takeC (i := 1) (v := ?vv7) (by kernel_rfl) (by kernel_rfl) rfl (by kernel_rfl) (by kernel_rfl) (by kernel_rfl) (fun _ _ _ h => h) d1 ⟨.inl ⟨rfl, ?yy7⟩, fun _ => rfl⟩ ?_
      case yy7 =>
        rintro wx ⟨⟨q1, q2⟩, q3, q4⟩
        go_simp
        first | done | rfl
      refine takeC (i := 2) (v := ?vv8) (by kernel_rfl) (by kernel_rfl) rfl (by kernel_rfl) (by kernel_rfl) (by kernel_rfl) (fun _ _ _ h => h) d1 ⟨.inl ⟨rfl, ?yy8⟩, fun _ => rfl⟩ ?_
      case yy8 =>
        rintro wx ⟨⟨q1, q2⟩, q3, q4⟩
        go_simp
        first | done | rfl
      refine takeC (i := 3) (v := ?vv9) (by kernel_rfl) (by kernel_rfl) rfl (by kernel_rfl) (by kernel_rfl) (by kernel_rfl) (fun _ _ _ h => h) d1 ⟨.inl ⟨rfl, ?yy9⟩, fun _ => rfl⟩ ?_
      case yy9 =>
        rintro wx ⟨⟨q1, q2⟩, q3, q4⟩
        go_simp
        first | done | rfl
      refine takeC (i := 4) (v := ?vv10) (by kernel_rfl) (by kernel_rfl) rfl (by kernel_rfl) (by kernel_rfl) (by kernel_rfl) (fun _ _ _ h => h) d1 ⟨.inl ⟨rfl, ?yy10⟩, fun _ => rfl⟩ ?_
      case yy10 =>
        rintro wx ⟨⟨q1, q2⟩, q3, q4⟩
        go_simp
        first | done | rfl
      refine takeC (i := 5) (v := ?vv11) (by kernel_rfl) (by kernel_rfl) rfl (by kernel_rfl) (by kernel_rfl) (by kernel_rfl) (fun _ _ _ h => h) d1 ⟨.inl ⟨rfl, ?yy11⟩, fun _ => rfl⟩ ?_
      case yy11 =>
        rintro wx ⟨⟨q1, q2⟩, q3, q4⟩
        go_simp
        first | done | rfl
      refine takeC (i := 6) (v := ?vv12) (by kernel_rfl) (by kernel_rfl) rfl (by kernel_rfl) (by kernel_rfl) (by kernel_rfl) (fun _ _ _ h => h) d1 ⟨.inl ⟨rfl, ?yy12⟩, fun _ => rfl⟩ ?_
      case yy12 =>
        rintro wx ⟨⟨q1, q2⟩, q3, q4⟩
        go_simp
        first | done | rfl
      refine takeC (i := 7) (v := ?vv13) (by kernel_rfl) (by kernel_rfl) rfl (by kernel_rfl) (by kernel_rfl) (by kernel_rfl) (fun _ _ _ h => h) d1 ⟨.inl ⟨rfl, ?yy13⟩, fun _ => rfl⟩ ?_
      case yy13 =>
        rintro wx ⟨⟨q1, q2⟩, q3, q4⟩
        go_simp
        first | done | rfl
      refine takeC (i := 8) (v := ?vv14) (by kernel_rfl) (by kernel_rfl) rfl (by kernel_rfl) (by kernel_rfl) (by kernel_rfl) (fun _ _ _ h => h) d1 ⟨.inl ⟨rfl, ?yy14⟩, fun _ => rfl⟩ ?_
      case yy14 =>
        rintro wx ⟨⟨q1, q2⟩, q3, q4⟩
        go_simp
        first | done | rfl
      refine takeC (i := 9) (v := ?vv15) (by kernel_rfl) (by kernel_rfl) rfl (by kernel_rfl) (by kernel_rfl) (by kernel_rfl) (fun _ _ _ h => h) d1 ⟨.inl ⟨rfl, ?yy15⟩, fun _ => rfl⟩ ?_
      case yy15 =>
        rintro wx ⟨⟨q1, q2⟩, q3, q4⟩
        go_simp
        first | done | rfl
      refine takeC (i := 10) (v := ?vv16) (by kernel_rfl) (by kernel_rfl) rfl (by kernel_rfl) (by kernel_rfl) (by kernel_rfl) (fun _ _ _ h => h) d1 ⟨.inl ⟨rfl, ?yy16⟩, fun _ => rfl⟩ ?_
      case yy16 =>
        rintro wx ⟨⟨q1, q2⟩, q3, q4⟩
        go_simp
        first | done | rfl
      refine takeC (i := 11) (v := ?vv17) (by kernel_rfl) (by kernel_rfl) rfl (by kernel_rfl) (by kernel_rfl) (by kernel_rfl) (fun _ _ _ h => h) d1 ⟨.inl ⟨rfl, ?yy17⟩, fun _ => rfl⟩ ?_
      case yy17 =>
        rintro wx ⟨⟨q1, q2⟩, q3, q4⟩
        go_simp
        first | done | rfl
      refine takeC (i := 12) (v := ?vv18) (by kernel_rfl) (by kernel_rfl) rfl (by kernel_rfl) (by kernel_rfl) (by kernel_rfl) (fun _ _ _ h => h) d1 ⟨.inl ⟨rfl, ?yy18⟩, fun _ => rfl⟩ ?_
      case yy18 =>
        rintro wx ⟨⟨q1, q2⟩, q3, q4⟩
        go_simp
        first | done | rfl
      refine takeC (i := 13) (v := ?vv19) (by kernel_rfl) (by kernel_rfl) rfl (by kernel_rfl) (by kernel_rfl) (by kernel_rfl) (fun _ _ _ h => h) d1 ⟨.inl ⟨rfl, ?yy19⟩, fun _ => rfl⟩ ?_
      case yy19 =>
        rintro wx ⟨⟨q1, q2⟩, q3, q4⟩
        go_simp
        first | done | rfl
      refine takeC (i := 14) (v := ?vv20) (by kernel_rfl) (by kernel_rfl) rfl (by kernel_rfl) (by kernel_rfl) (by kernel_rfl) (fun _ _ _ h => h) d1 ⟨.inl ⟨rfl, ?yy20⟩, fun _ => rfl⟩ ?_
      case yy20 =>
        rintro wx ⟨⟨q1, q2⟩, q3, q4⟩
        go_simp
        first | done | rfl
      have hml := rmul_any Ao mo co lo Ai ni ci li wr.drew hro.drew hri.drew hio.lt hli (by omega) (by omega)
      refine oneC (i := 15) (by kernel_rfl) rfl (fun K hK => ?_)
      go_simp
      refine CallsIn.mono (callsIn_wide.2 hml) ?_
      rintro e w2 ⟨A2, n2, c2, l2, rfl, hi2, hr2, hb2⟩
      have hB2 : Below wr.heap.size wr w2 := (Below.refl _ wr).drew.trans hb2
      refine hK _ _ (.inr (cf _ hB2)) ?_
      clear hK K
      have dd2 := cf _ hB2
      refine oneC (i := 16) (by kernel_rfl) rfl (fun K hK => ?_)
      go_simp
      refine hK _ _ (.inr dd2) ?_
      clear hK K
      have hn2 : n2 ≤ M + m := by
        rw [← hr2.len]
        refine hi2.len ?_
        have e1 := hio.lt_pow; have e2 := val_lt hli
        rw [hio.val, Nat.pow_add]
        rw [hri.len] at e2
        have e3 : BB ^ ni ≤ BB ^ m := Nat.pow_le_pow_right BB_pos hni
        exact Nat.lt_of_lt_of_le (Nat.mul_lt_mul_of_lt_of_le hvb (Nat.le_of_lt (Nat.lt_of_lt_of_le e2 e3)) (Nat.pow_pos BB_pos)) (Nat.le_refl _)
      have htw := r5norm_any (decide (v < 0) != s) A2 n2 c2 l2 w2 hr2 hi2.lt (by omega)
      rw [iv_mul hi2.val, iv_norm hio] at htw
      have hsum : v * iv s li = iprod is (k + 1) := by
        show _ = iprod is k * ivAt is k
        rw [HV.out]
        unfold ivAt
        rw [HI.out]
        rfl
      have HS := hid hsum
      obtain ⟨v3, hv3⟩ : ∃ v3, v * iv s li = v3 := ⟨_, rfl⟩
      rw [hv3] at htw HS
      clear hsum
      refine oneC (i := 17) (by kernel_rfl) rfl (fun K hK => ?_)
      go_simp
      refine CallsIn.mono (callsIn_wide.2 htw) ?_
      rintro e w3 ⟨A3, n3, c3, l3, rfl, hi3, hr3, hb3⟩
      have hB3 : Below wr.heap.size wr w3 := hB2.trans (hb3.mono hB2.size)
      refine hK _ _ (.inr (cf _ hB3)) ?_
      clear hK K
      have hq := hx1.kept hB3
      obtain ⟨⟨m0, m1⟩, m2, m3⟩ := hq.facts2
      have hq0 := hx0.kept hB3
      refine oneC (i := 18) (by kernel_rfl) rfl (fun K hK => ?_)
      go_simp
      refine hK _ _ (.inl rfl) ?_
      clear hK K
      refine doneP (by kernel_rfl) ?_
      go_wp2
      go_roundw
      case rel =>
        have e1 := HS.out
        refine ⟨k + 1, A3, n3, c3, l3, by omega, by go_num, ?_, by rw [← e1]; exact hi3, (hr3.setN hq (i := 0) rfl (fun _ => by simp) _).setN (hq.set 0 _) (i := 1) rfl (fun _ => by simp) _, ?_, ?_⟩
        · rw [← e1]
          exact (hq.set 0 _).set 1 _
        · exact (hq0.other (p := ⟨w0.heap.size, 0, none⟩) (by simp; omega) _).other (p := ⟨w0.heap.size, 1, none⟩) (by simp; omega) _
        · exact ((hB.trans (hB3.mono hB.size)).setCell (p := ⟨w0.heap.size, 0, none⟩) (by simp; omega) _).setCell (p := ⟨w0.heap.size, 1, none⟩) (by simp; omega) _
      case measure => simp [intOf]; omega
    · obtain rfl : k = n := by omega
      obtain ⟨⟨g0, g1⟩, _, _⟩ := hx1.facts2
      obtain ⟨⟨m0, m1⟩, m2, m3⟩ := hx0.facts2
      go_wp2
      obtain ⟨⟨c0, c1⟩, _, _⟩ := ((hx0.set 0 (.bool (decide (v < 0)))).set 1 (.slice Ao mo co)).facts2
      refine bodyPost_ret (v := .agg #[.bool (decide (v < 0)), .slice Ao mo co]) (by simp [results, Try.results15, go_sem, c0, c1]) rfl ?_
      rw [HV.out]
      exact ret2 hx0 hB (Nat.le_refl _) hio hro

theorem r5add_v {W : World} {m : Nat} {v : Value} {is : List (Bool × List Nat)} (M : Nat) (h : IS W m v is) (hn : is.length ≤ 1000000) (hmM : m ≤ M) (hM : M ≤ 100000) (hv : ∀ k, k ≤ is.length → (isum is k).natAbs < BB ^ M) : Calls Try.prog 14 #[v] W (RetV W (isum is is.length)) := by
  obtain ⟨A, rfl, h2⟩ := h
  exact (r5add_any A is.length is.length is m M W h2 (Nat.le_refl _) hn hmM hM hv).mono fun _ _ => RetInt.v
theorem r5mul_v {W : World} {m : Nat} {v : Value} {is : List (Bool × List Nat)} (M : Nat) (h : IS W m v is) (hn : is.length ≤ 1000000) (hmM : m ≤ M) (hM : M ≤ 50000) (hv : ∀ k, k ≤ is.length → (iprod is k).natAbs < BB ^ M) : Calls Try.prog 15 #[v] W (RetV W (iprod is is.length)) := by
  obtain ⟨A, rfl, h2⟩ := h
  exact (r5mul_any A is.length is.length is m M W h2 (Nat.le_refl _) hn hmM hM hv).mono fun _ _ => RetInt.v
end Go.Proofs.Wd
