/- The walk of num.mul. -/
import Derived.Test.YtghgemeclgpibaaSintE
import Derived.Test.YtghgemeclgpibaaProdG
import Derived.Test.YtghgemeclgpibaaFlowT
namespace Go.Proofs.Wd
open Go.RowKit Lb
attribute [local go_sem] Oper.semAt_some wide_fn wide_depth

theorem sgn_mul {v v' : Int} {l : List Nat} (h : val l = v.natAbs * v'.natAbs) : iv (!(decide (v < 0) == decide (v' < 0))) l = v * v' := by
  unfold iv
  rw [h]
  rcases Int.lt_or_le v 0 with h1 | h1 <;> rcases Int.lt_or_le v' 0 with h2 | h2
  all_goals simp only [h1, h2, decide_true, decide_false, Int.not_lt.2 h1, Int.not_lt.2 h2, beq_self_eq_true, Bool.not_true, Bool.not_false, Bool.false_eq_true, if_true, if_false, Int.natCast_mul, show (true == false) = false from rfl, show (false == true) = false from rfl]
  all_goals first | rw [Int.ofNat_natAbs_of_nonneg h1] | rw [Int.ofNat_natAbs_of_nonpos (Int.le_of_lt h1)]
  all_goals first | rw [Int.ofNat_natAbs_of_nonneg h2] | rw [Int.ofNat_natAbs_of_nonpos (Int.le_of_lt h2)]
  all_goals simp [Int.neg_mul, Int.mul_neg]

set_option maxRecDepth 100000 in
set_option maxHeartbeats 1000000 in
theorem num_mul (B B' : Nat) (v v' : Int) (k : Nat) (w : World) (h : NumAt w B v) (h' : NumAt w B' v') (hv : v.natAbs < BB ^ k) (hv' : v'.natAbs < BB ^ k) (hk : k ≤ 40000) :
    Calls Try.prog 47 #[.pointer (some ⟨B, 0, none⟩), .pointer (some ⟨B', 0, none⟩)] w fun e w' => (∃ u, e = .returned u) ∧ NumAt w' B (v * v') ∧ w.grownBy w' (some B) := by
  obtain ⟨A, n, c, l, hb, hi, hr⟩ := h
  obtain ⟨A', n', c', l', hb', hi', hr'⟩ := h'
  have hn : n ≤ k := by rw [← hr.len]; exact hi.len hv
  have hn' : n' ≤ k := by rw [← hr'.len]; exact hi'.len hv'
  have hmix : Try.prog.follows .mixedOrders = true := by kernel_rfl
  have cf : ∀ W, Below w.heap.size w W → (W.cell? ⟨B, 0, none⟩ = some (.bool (decide (v < 0))) ∧ W.cell? ⟨B, 1, none⟩ = some (.slice A n c)) ∧ W.cell? ⟨B', 0, none⟩ = some (.bool (decide (v' < 0))) ∧ W.cell? ⟨B', 1, none⟩ = some (.slice A' n' c') := fun W hb1 => ⟨(hb.kept hb1).facts2.1, (hb'.kept hb1).facts2.1⟩
  go_enter Try.func47, Try.ntmps47
  go_wp2
  refine (wpIn_wide (n := 0)).1 ?_
  refine wpIn_region_C 31 (fun _ => True) hmix ?_
  refine takeC (i := 1) (v := ?vv1) (by kernel_rfl) (by kernel_rfl) rfl (by kernel_rfl) (by kernel_rfl) (by kernel_rfl) (fun _ _ _ h => h) trivial ⟨.inl ⟨rfl, ?yy1⟩, fun _ => rfl⟩ ?_
  case yy1 =>
    rintro wx _
    go_simp
    first | done | rfl
  refine flowT_at (k := 24) (fun _ => false) (fun iz vz Wz => match iz with
    | 0 => vz = .pointer (some ⟨B, 0, none⟩)
    | 1 => vz = .pointer (some ⟨B, 0, none⟩)
    | 2 => vz = .pointer (some ⟨B, 0, none⟩)
    | 3 => vz = .pointer (some ⟨B, 0, none⟩)
    | 4 => vz = .pointer (some ⟨B, 0, none⟩)
    | 5 => vz = .pointer (some ⟨B, 0, none⟩)
    | 6 => vz = .bool (decide (v < 0))
    | 7 => vz = .pointer (some ⟨B', 0, none⟩)
    | 8 => vz = .pointer (some ⟨B', 0, none⟩)
    | 9 => vz = .pointer (some ⟨B', 0, none⟩)
    | 10 => vz = .pointer (some ⟨B', 0, none⟩)
    | 11 => vz = .bool (decide (v' < 0))
    | 12 => vz = .bool (!(decide (v < 0) == decide (v' < 0)))
    | 13 => vz = .pointer (some ⟨B, 0, none⟩)
    | 14 => vz = .pointer (some ⟨B, 0, none⟩)
    | 15 => vz = .pointer (some ⟨B, 0, none⟩)
    | 16 => vz = .pointer (some ⟨B, 1, none⟩)
    | 17 => vz = .slice A n c
    | 18 => vz = .pointer (some ⟨B', 0, none⟩)
    | 19 => vz = .pointer (some ⟨B', 0, none⟩)
    | 20 => vz = .pointer (some ⟨B', 0, none⟩)
    | 21 => vz = .pointer (some ⟨B', 1, none⟩)
    | 22 => vz = .slice A' n' c'
    | 23 => NatV Wz vz (v.natAbs * v'.natAbs)
    | _ => True) (fun W => Below w.heap.size w W) (by kernel_rfl) (by kernel_rfl) (by kernel_rfl) (by kernel_rfl) (by kernel_rfl) (by kernel_rfl) (by kernel_rfl) (by kernel_rfl) (by kernel_rfl) (fun _ _ h hb => h.trans (hb.mono h.size)) ?stab ((Below.refl _ w).drew) ?spec ?fin
  case stab =>
    intro iz vz Wz Wy h hb
    split at h <;> first | exact h | exact NatV.below h hb | trivial
  case spec =>
    refine all_lt_succ ?_ ?h23
    refine all_lt_succ ?_ ?h22
    refine all_lt_succ ?_ ?h21
    refine all_lt_succ ?_ ?h20
    refine all_lt_succ ?_ ?h19
    refine all_lt_succ ?_ ?h18
    refine all_lt_succ ?_ ?h17
    refine all_lt_succ ?_ ?h16
    refine all_lt_succ ?_ ?h15
    refine all_lt_succ ?_ ?h14
    refine all_lt_succ ?_ ?h13
    refine all_lt_succ ?_ ?h12
    refine all_lt_succ ?_ ?h11
    refine all_lt_succ ?_ ?h10
    refine all_lt_succ ?_ ?h9
    refine all_lt_succ ?_ ?h8
    refine all_lt_succ ?_ ?h7
    refine all_lt_succ ?_ ?h6
    refine all_lt_succ ?_ ?h5
    refine all_lt_succ ?_ ?h4
    refine all_lt_succ ?_ ?h3
    refine all_lt_succ ?_ ?h2
    refine all_lt_succ ?_ ?h1
    refine all_lt_succ ?_ ?h0
    exact fun i h _ => absurd h (Nat.not_lt_zero i)
    case h0 =>
      intro _ o hi b5 W5 hf K hK
      cases hi
      have k0 : b5.tmps[0]?.getD undef = .pointer (some ⟨B, 0, none⟩) := (Array.getD_eq_getD_getElem? ..).symm.trans ((hf.at_.keep 0 (by kernel_rfl)).trans (by kernel_rfl))
      refine wpOpIn_step rfl (fun K' hK' => ?_)
      go_simp
      exact hK' _ _ (hK _ _ rfl (Below.refl _ _) (fun h => by cases h))
    case h1 =>
      intro h
      exact absurd h (by decide)
    case h2 =>
      intro _ o hi b5 W5 hf K hK
      cases hi
      have k0 : b5.tmps[0]?.getD undef = .pointer (some ⟨B, 0, none⟩) := (Array.getD_eq_getD_getElem? ..).symm.trans ((hf.at_.keep 0 (by kernel_rfl)).trans (by kernel_rfl))
      refine wpOpIn_step rfl (fun K' hK' => ?_)
      go_simp
      exact hK' _ _ (hK _ _ rfl (Below.refl _ _) (fun h => by cases h))
    case h3 =>
      intro _ o hi b5 W5 hf K hK
      cases hi
      have k6 : b5.tmps[6]?.getD undef = .pointer (some ⟨B, 0, none⟩) := (Array.getD_eq_getD_getElem? ..).symm.trans (hf.at_.vals 2 _ 6 ⟨by decide, ⟨2, .data⟩, by simp, by kernel_rfl, rfl⟩ rfl rfl)
      refine wpOpIn_step rfl (fun K' hK' => ?_)
      go_simp
      exact hK' _ _ (hK _ _ rfl (Below.refl _ _) (fun h => by cases h))
    case h4 =>
      intro _ o hi b5 W5 hf K hK
      cases hi
      have k7 : b5.tmps[7]?.getD undef = .pointer (some ⟨B, 0, none⟩) := (Array.getD_eq_getD_getElem? ..).symm.trans (hf.at_.vals 3 _ 7 ⟨by decide, ⟨3, .data⟩, by simp, by kernel_rfl, rfl⟩ rfl rfl)
      refine wpOpIn_step rfl (fun K' hK' => ?_)
      go_simp
      exact hK' _ _ (hK _ _ rfl (Below.refl _ _) (fun h => by cases h))
    case h5 =>
      intro _ o hi b5 W5 hf K hK
      cases hi
      have k8 : b5.tmps[8]?.getD undef = .pointer (some ⟨B, 0, none⟩) := (Array.getD_eq_getD_getElem? ..).symm.trans (hf.at_.vals 4 _ 8 ⟨by decide, ⟨4, .data⟩, by simp, by kernel_rfl, rfl⟩ rfl rfl)
      refine wpOpIn_step rfl (fun K' hK' => ?_)
      go_simp
      exact hK' _ _ (hK _ _ rfl (Below.refl _ _) (fun h => by cases h))
    case h6 =>
      intro _ o hi b5 W5 hf K hK
      cases hi
      have k9 : b5.tmps[9]?.getD undef = .pointer (some ⟨B, 0, none⟩) := (Array.getD_eq_getD_getElem? ..).symm.trans (hf.at_.vals 5 _ 9 ⟨by decide, ⟨5, .data⟩, by simp, by kernel_rfl, rfl⟩ rfl rfl)
      obtain ⟨⟨q1, q2⟩, q3, q4⟩ := cf W5 hf.at_.cls
      refine wpOpIn_step rfl (fun K' hK' => ?_)
      go_simp
      exact hK' _ _ (hK _ _ rfl (Below.refl _ _) (fun h => by cases h))
    case h7 =>
      intro _ o hi b5 W5 hf K hK
      cases hi
      have k1 : b5.tmps[1]?.getD undef = .pointer (some ⟨B', 0, none⟩) := (Array.getD_eq_getD_getElem? ..).symm.trans ((hf.at_.keep 1 (by kernel_rfl)).trans (by kernel_rfl))
      refine wpOpIn_step rfl (fun K' hK' => ?_)
      go_simp
      exact hK' _ _ (hK _ _ rfl (Below.refl _ _) (fun h => by cases h))
    case h8 =>
      intro _ o hi b5 W5 hf K hK
      cases hi
      have k11 : b5.tmps[11]?.getD undef = .pointer (some ⟨B', 0, none⟩) := (Array.getD_eq_getD_getElem? ..).symm.trans (hf.at_.vals 7 _ 11 ⟨by decide, ⟨7, .data⟩, by simp, by kernel_rfl, rfl⟩ rfl rfl)
      refine wpOpIn_step rfl (fun K' hK' => ?_)
      go_simp
      exact hK' _ _ (hK _ _ rfl (Below.refl _ _) (fun h => by cases h))
    case h9 =>
      intro _ o hi b5 W5 hf K hK
      cases hi
      have k12 : b5.tmps[12]?.getD undef = .pointer (some ⟨B', 0, none⟩) := (Array.getD_eq_getD_getElem? ..).symm.trans (hf.at_.vals 8 _ 12 ⟨by decide, ⟨8, .data⟩, by simp, by kernel_rfl, rfl⟩ rfl rfl)
      refine wpOpIn_step rfl (fun K' hK' => ?_)
      go_simp
      exact hK' _ _ (hK _ _ rfl (Below.refl _ _) (fun h => by cases h))
    case h10 =>
      intro _ o hi b5 W5 hf K hK
      cases hi
      have k13 : b5.tmps[13]?.getD undef = .pointer (some ⟨B', 0, none⟩) := (Array.getD_eq_getD_getElem? ..).symm.trans (hf.at_.vals 9 _ 13 ⟨by decide, ⟨9, .data⟩, by simp, by kernel_rfl, rfl⟩ rfl rfl)
      refine wpOpIn_step rfl (fun K' hK' => ?_)
      go_simp
      exact hK' _ _ (hK _ _ rfl (Below.refl _ _) (fun h => by cases h))
    case h11 =>
      intro _ o hi b5 W5 hf K hK
      cases hi
      have k14 : b5.tmps[14]?.getD undef = .pointer (some ⟨B', 0, none⟩) := (Array.getD_eq_getD_getElem? ..).symm.trans (hf.at_.vals 10 _ 14 ⟨by decide, ⟨10, .data⟩, by simp, by kernel_rfl, rfl⟩ rfl rfl)
      obtain ⟨⟨q1, q2⟩, q3, q4⟩ := cf W5 hf.at_.cls
      refine wpOpIn_step rfl (fun K' hK' => ?_)
      go_simp
      exact hK' _ _ (hK _ _ rfl (Below.refl _ _) (fun h => by cases h))
    case h12 =>
      intro _ o hi b5 W5 hf K hK
      cases hi
      have k10 : b5.tmps[10]?.getD undef = .bool (decide (v < 0)) := (Array.getD_eq_getD_getElem? ..).symm.trans (hf.at_.vals 6 _ 10 ⟨by decide, ⟨6, .data⟩, by simp, by kernel_rfl, rfl⟩ rfl rfl)
      have k15 : b5.tmps[15]?.getD undef = .bool (decide (v' < 0)) := (Array.getD_eq_getD_getElem? ..).symm.trans (hf.at_.vals 11 _ 15 ⟨by decide, ⟨11, .data⟩, by simp, by kernel_rfl, rfl⟩ rfl rfl)
      refine wpOpIn_step rfl (fun K' hK' => ?_)
      go_simp
      exact hK' _ _ (hK _ _ rfl (Below.refl _ _) (fun h => by cases h))
    case h13 =>
      intro _ o hi b5 W5 hf K hK
      cases hi
      have k0 : b5.tmps[0]?.getD undef = .pointer (some ⟨B, 0, none⟩) := (Array.getD_eq_getD_getElem? ..).symm.trans ((hf.at_.keep 0 (by kernel_rfl)).trans (by kernel_rfl))
      refine wpOpIn_step rfl (fun K' hK' => ?_)
      go_simp
      exact hK' _ _ (hK _ _ rfl (Below.refl _ _) (fun h => by cases h))
    case h14 =>
      intro _ o hi b5 W5 hf K hK
      cases hi
      have k17 : b5.tmps[17]?.getD undef = .pointer (some ⟨B, 0, none⟩) := (Array.getD_eq_getD_getElem? ..).symm.trans (hf.at_.vals 13 _ 17 ⟨by decide, ⟨13, .data⟩, by simp, by kernel_rfl, rfl⟩ rfl rfl)
      refine wpOpIn_step rfl (fun K' hK' => ?_)
      go_simp
      exact hK' _ _ (hK _ _ rfl (Below.refl _ _) (fun h => by cases h))
    case h15 =>
      intro _ o hi b5 W5 hf K hK
      cases hi
      have k18 : b5.tmps[18]?.getD undef = .pointer (some ⟨B, 0, none⟩) := (Array.getD_eq_getD_getElem? ..).symm.trans (hf.at_.vals 14 _ 18 ⟨by decide, ⟨14, .data⟩, by simp, by kernel_rfl, rfl⟩ rfl rfl)
      refine wpOpIn_step rfl (fun K' hK' => ?_)
      go_simp
      exact hK' _ _ (hK _ _ rfl (Below.refl _ _) (fun h => by cases h))
    case h16 =>
      intro _ o hi b5 W5 hf K hK
      cases hi
      have k19 : b5.tmps[19]?.getD undef = .pointer (some ⟨B, 0, none⟩) := (Array.getD_eq_getD_getElem? ..).symm.trans (hf.at_.vals 15 _ 19 ⟨by decide, ⟨15, .data⟩, by simp, by kernel_rfl, rfl⟩ rfl rfl)
      refine wpOpIn_step rfl (fun K' hK' => ?_)
      go_simp
      exact hK' _ _ (hK _ _ rfl (Below.refl _ _) (fun h => by cases h))
    case h17 =>
      intro _ o hi b5 W5 hf K hK
      cases hi
      have k20 : b5.tmps[20]?.getD undef = .pointer (some ⟨B, 1, none⟩) := (Array.getD_eq_getD_getElem? ..).symm.trans (hf.at_.vals 16 _ 20 ⟨by decide, ⟨16, .data⟩, by simp, by kernel_rfl, rfl⟩ rfl rfl)
      obtain ⟨⟨q1, q2⟩, q3, q4⟩ := cf W5 hf.at_.cls
      refine wpOpIn_step rfl (fun K' hK' => ?_)
      go_simp
      exact hK' _ _ (hK _ _ rfl (Below.refl _ _) (fun h => by cases h))
    case h18 =>
      intro _ o hi b5 W5 hf K hK
      cases hi
      have k1 : b5.tmps[1]?.getD undef = .pointer (some ⟨B', 0, none⟩) := (Array.getD_eq_getD_getElem? ..).symm.trans ((hf.at_.keep 1 (by kernel_rfl)).trans (by kernel_rfl))
      refine wpOpIn_step rfl (fun K' hK' => ?_)
      go_simp
      exact hK' _ _ (hK _ _ rfl (Below.refl _ _) (fun h => by cases h))
    case h19 =>
      intro _ o hi b5 W5 hf K hK
      cases hi
      have k22 : b5.tmps[22]?.getD undef = .pointer (some ⟨B', 0, none⟩) := (Array.getD_eq_getD_getElem? ..).symm.trans (hf.at_.vals 18 _ 22 ⟨by decide, ⟨18, .data⟩, by simp, by kernel_rfl, rfl⟩ rfl rfl)
      refine wpOpIn_step rfl (fun K' hK' => ?_)
      go_simp
      exact hK' _ _ (hK _ _ rfl (Below.refl _ _) (fun h => by cases h))
    case h20 =>
      intro _ o hi b5 W5 hf K hK
      cases hi
      have k23 : b5.tmps[23]?.getD undef = .pointer (some ⟨B', 0, none⟩) := (Array.getD_eq_getD_getElem? ..).symm.trans (hf.at_.vals 19 _ 23 ⟨by decide, ⟨19, .data⟩, by simp, by kernel_rfl, rfl⟩ rfl rfl)
      refine wpOpIn_step rfl (fun K' hK' => ?_)
      go_simp
      exact hK' _ _ (hK _ _ rfl (Below.refl _ _) (fun h => by cases h))
    case h21 =>
      intro _ o hi b5 W5 hf K hK
      cases hi
      have k24 : b5.tmps[24]?.getD undef = .pointer (some ⟨B', 0, none⟩) := (Array.getD_eq_getD_getElem? ..).symm.trans (hf.at_.vals 20 _ 24 ⟨by decide, ⟨20, .data⟩, by simp, by kernel_rfl, rfl⟩ rfl rfl)
      refine wpOpIn_step rfl (fun K' hK' => ?_)
      go_simp
      exact hK' _ _ (hK _ _ rfl (Below.refl _ _) (fun h => by cases h))
    case h22 =>
      intro _ o hi b5 W5 hf K hK
      cases hi
      have k25 : b5.tmps[25]?.getD undef = .pointer (some ⟨B', 1, none⟩) := (Array.getD_eq_getD_getElem? ..).symm.trans (hf.at_.vals 21 _ 25 ⟨by decide, ⟨21, .data⟩, by simp, by kernel_rfl, rfl⟩ rfl rfl)
      obtain ⟨⟨q1, q2⟩, q3, q4⟩ := cf W5 hf.at_.cls
      refine wpOpIn_step rfl (fun K' hK' => ?_)
      go_simp
      exact hK' _ _ (hK _ _ rfl (Below.refl _ _) (fun h => by cases h))
    case h23 =>
      intro _ o hi b5 W5 hf K hK
      cases hi
      have k21 : b5.tmps[21]?.getD undef = .slice A n c := (Array.getD_eq_getD_getElem? ..).symm.trans (hf.at_.vals 17 _ 21 ⟨by decide, ⟨17, .data⟩, by simp, by kernel_rfl, rfl⟩ rfl rfl)
      have k26 : b5.tmps[26]?.getD undef = .slice A' n' c' := (Array.getD_eq_getD_getElem? ..).symm.trans (hf.at_.vals 22 _ 26 ⟨by decide, ⟨22, .data⟩, by simp, by kernel_rfl, rfl⟩ rfl rfl)
      refine wpOpIn_step rfl (fun K' hK' => ?_)
      go_simp
      have hm := mul_any A n c l A' n' c' l' W5 (hr.below hf.at_.cls) (hr'.below hf.at_.cls) hi.lt hi'.lt (by omega) (by omega)
      rw [hi.val, hi'.val] at hm
      refine CallsIn.mono (callsIn_wide.2 hm) ?_
      rintro e W' ⟨A7, n7, c7, l7, rfl, hi7, hr7, hb7⟩
      exact hK' _ _ (hK _ _ ⟨A7, n7, c7, l7, rfl, hi7, hr7⟩ hb7 (fun h => by cases h))
  case fin =>
    intro b5 W5 hf
    have e4 : b5.tmps.getD 4 undef = .pointer (some ⟨B, 0, none⟩) := hf.at_.vals 0 _ 4 ⟨by decide, by decide⟩ rfl rfl
    have e6 : b5.tmps.getD 6 undef = .pointer (some ⟨B, 0, none⟩) := hf.at_.vals 2 _ 6 ⟨by decide, by decide⟩ rfl rfl
    have e7 : b5.tmps.getD 7 undef = .pointer (some ⟨B, 0, none⟩) := hf.at_.vals 3 _ 7 ⟨by decide, by decide⟩ rfl rfl
    have e8 : b5.tmps.getD 8 undef = .pointer (some ⟨B, 0, none⟩) := hf.at_.vals 4 _ 8 ⟨by decide, by decide⟩ rfl rfl
    have e9 : b5.tmps.getD 9 undef = .pointer (some ⟨B, 0, none⟩) := hf.at_.vals 5 _ 9 ⟨by decide, by decide⟩ rfl rfl
    have e10 : b5.tmps.getD 10 undef = .bool (decide (v < 0)) := hf.at_.vals 6 _ 10 ⟨by decide, by decide⟩ rfl rfl
    have e11 : b5.tmps.getD 11 undef = .pointer (some ⟨B', 0, none⟩) := hf.at_.vals 7 _ 11 ⟨by decide, by decide⟩ rfl rfl
    have e12 : b5.tmps.getD 12 undef = .pointer (some ⟨B', 0, none⟩) := hf.at_.vals 8 _ 12 ⟨by decide, by decide⟩ rfl rfl
    have e13 : b5.tmps.getD 13 undef = .pointer (some ⟨B', 0, none⟩) := hf.at_.vals 9 _ 13 ⟨by decide, by decide⟩ rfl rfl
    have e14 : b5.tmps.getD 14 undef = .pointer (some ⟨B', 0, none⟩) := hf.at_.vals 10 _ 14 ⟨by decide, by decide⟩ rfl rfl
    have e15 : b5.tmps.getD 15 undef = .bool (decide (v' < 0)) := hf.at_.vals 11 _ 15 ⟨by decide, by decide⟩ rfl rfl
    have e16 : b5.tmps.getD 16 undef = .bool (!(decide (v < 0) == decide (v' < 0))) := hf.at_.vals 12 _ 16 ⟨by decide, by decide⟩ rfl rfl
    have e17 : b5.tmps.getD 17 undef = .pointer (some ⟨B, 0, none⟩) := hf.at_.vals 13 _ 17 ⟨by decide, by decide⟩ rfl rfl
    have e18 : b5.tmps.getD 18 undef = .pointer (some ⟨B, 0, none⟩) := hf.at_.vals 14 _ 18 ⟨by decide, by decide⟩ rfl rfl
    have e19 : b5.tmps.getD 19 undef = .pointer (some ⟨B, 0, none⟩) := hf.at_.vals 15 _ 19 ⟨by decide, by decide⟩ rfl rfl
    have e20 : b5.tmps.getD 20 undef = .pointer (some ⟨B, 1, none⟩) := hf.at_.vals 16 _ 20 ⟨by decide, by decide⟩ rfl rfl
    have e21 : b5.tmps.getD 21 undef = .slice A n c := hf.at_.vals 17 _ 21 ⟨by decide, by decide⟩ rfl rfl
    have e22 : b5.tmps.getD 22 undef = .pointer (some ⟨B', 0, none⟩) := hf.at_.vals 18 _ 22 ⟨by decide, by decide⟩ rfl rfl
    have e23 : b5.tmps.getD 23 undef = .pointer (some ⟨B', 0, none⟩) := hf.at_.vals 19 _ 23 ⟨by decide, by decide⟩ rfl rfl
    have e24 : b5.tmps.getD 24 undef = .pointer (some ⟨B', 0, none⟩) := hf.at_.vals 20 _ 24 ⟨by decide, by decide⟩ rfl rfl
    have e25 : b5.tmps.getD 25 undef = .pointer (some ⟨B', 1, none⟩) := hf.at_.vals 21 _ 25 ⟨by decide, by decide⟩ rfl rfl
    have e26 : b5.tmps.getD 26 undef = .slice A' n' c' := hf.at_.vals 22 _ 26 ⟨by decide, by decide⟩ rfl rfl
    have v27 := hf.at_.vals 23 _ 27 ⟨by decide, by decide⟩ rfl rfl
    have hE := frame_eq [4, 6, 7, 8, 9, 10, 11, 12, 13, 14, 15, 16, 17, 18, 19, 20, 21, 22, 23, 24, 25, 26, 27, 28, 29, 30, 31, 32, 33] hf.at_.size (fun t ht5 => hf.at_.keep t (not_dst (by rw [show dstList _ _ = [4, 6, 7, 8, 9, 10, 11, 12, 13, 14, 15, 16, 17, 18, 19, 20, 21, 22, 23, 24, 25, 26, 27, 28, 29, 30, 31, 32, 33] from by kernel_rfl]; exact ht5)))
    have hcl5 := hf.at_.cls
    obtain ⟨tm, df⟩ := b5
    obtain rfl : df = _ := hf.at_.defers
    clear hf
    simp only [List.foldl_cons, List.foldl_nil] at hE
    rw [show tm.getD 4 undef = _ from e4] at hE; clear e4
    rw [show tm.getD 6 undef = _ from e6] at hE; clear e6
    rw [show tm.getD 7 undef = _ from e7] at hE; clear e7
    rw [show tm.getD 8 undef = _ from e8] at hE; clear e8
    rw [show tm.getD 9 undef = _ from e9] at hE; clear e9
    rw [show tm.getD 10 undef = _ from e10] at hE; clear e10
    rw [show tm.getD 11 undef = _ from e11] at hE; clear e11
    rw [show tm.getD 12 undef = _ from e12] at hE; clear e12
    rw [show tm.getD 13 undef = _ from e13] at hE; clear e13
    rw [show tm.getD 14 undef = _ from e14] at hE; clear e14
    rw [show tm.getD 15 undef = _ from e15] at hE; clear e15
    rw [show tm.getD 16 undef = _ from e16] at hE; clear e16
    rw [show tm.getD 17 undef = _ from e17] at hE; clear e17
    rw [show tm.getD 18 undef = _ from e18] at hE; clear e18
    rw [show tm.getD 19 undef = _ from e19] at hE; clear e19
    rw [show tm.getD 20 undef = _ from e20] at hE; clear e20
    rw [show tm.getD 21 undef = _ from e21] at hE; clear e21
    rw [show tm.getD 22 undef = _ from e22] at hE; clear e22
    rw [show tm.getD 23 undef = _ from e23] at hE; clear e23
    rw [show tm.getD 24 undef = _ from e24] at hE; clear e24
    rw [show tm.getD 25 undef = _ from e25] at hE; clear e25
    rw [show tm.getD 26 undef = _ from e26] at hE; clear e26
    obtain ⟨x27, hx27⟩ : ∃ x, tm.getD 27 undef = x := ⟨_, rfl⟩; rw [hx27] at hE; rw [show tm.getD 27 undef = _ from hx27] at v27; clear hx27
    obtain ⟨u28, hu28⟩ : ∃ x, tm.getD 28 undef = x := ⟨_, rfl⟩; rw [hu28] at hE; clear hu28
    obtain ⟨u29, hu29⟩ : ∃ x, tm.getD 29 undef = x := ⟨_, rfl⟩; rw [hu29] at hE; clear hu29
    obtain ⟨u30, hu30⟩ : ∃ x, tm.getD 30 undef = x := ⟨_, rfl⟩; rw [hu30] at hE; clear hu30
    obtain ⟨u31, hu31⟩ : ∃ x, tm.getD 31 undef = x := ⟨_, rfl⟩; rw [hu31] at hE; clear hu31
    obtain ⟨u32, hu32⟩ : ∃ x, tm.getD 32 undef = x := ⟨_, rfl⟩; rw [hu32] at hE; clear hu32
    obtain ⟨u33, hu33⟩ : ∃ x, tm.getD 33 undef = x := ⟨_, rfl⟩; rw [hu33] at hE; clear hu33
    rewrite [hE]
    clear hE
    obtain ⟨A2, n2, c2, l2, rfl, hi2, hr2⟩ := v27
    have hb3 := hb.kept hcl5
    obtain ⟨⟨m0, m1⟩, m2, m3⟩ := hb3.facts2
    go_simp
    refine oneC (i := 24) (by kernel_rfl) rfl (fun K hK => ?_)
    go_simp
    refine hK _ _ (.inr trivial) ?_
    clear hK K
    refine oneC (i := 25) (by kernel_rfl) rfl (fun K hK => ?_)
    go_simp
    refine hK _ _ (.inr trivial) ?_
    clear hK K
    refine oneC (i := 26) (by kernel_rfl) rfl (fun K hK => ?_)
    go_simp
    refine hK _ _ (.inr trivial) ?_
    clear hK K
    refine oneC (i := 27) (by kernel_rfl) rfl (fun K hK => ?_)
    go_simp
    refine hK _ _ (.inr trivial) ?_
    clear hK K
    have hb4 := hb3.set 0 (.bool (!(decide (v < 0) == decide (v' < 0))))
    obtain ⟨⟨m0, m1⟩, m2, m3⟩ := hb4.facts2
    refine oneC (i := 28) (by kernel_rfl) rfl (fun K hK => ?_)
    go_simp
    refine hK _ _ (.inr trivial) ?_
    clear hK K
    refine oneC (i := 29) (by kernel_rfl) rfl (fun K hK => ?_)
    go_simp
    refine hK _ _ (.inr trivial) ?_
    clear hK K
    refine oneC (i := 30) (by kernel_rfl) rfl (fun K hK => ?_)
    go_simp
    refine hK _ _ (.inr trivial) ?_
    clear hK K
    refine oneC (i := 31) (by kernel_rfl) rfl (fun K hK => ?_)
    go_simp
    refine hK _ _ (.inr trivial) ?_
    clear hK K
    refine doneP (by kernel_rfl) ?_
    have hv2 : iv (!(decide (v < 0) == decide (v' < 0))) l2 = v * v' := sgn_mul hi2.val
    have hn2 : n2 ≤ 80000 := by rw [← hr2.len]; exact Nat.le_trans (hi2.len (k := k + k) (by rw [Nat.pow_add]; exact Nat.mul_lt_mul_of_lt_of_le hv (Nat.le_of_lt hv') (Nat.pow_pos BB_pos))) (by omega)
    go_wp2_with (go_at_call 53; refine (norm_any B _ A2 n2 c2 l2 _ (hb4.set 1 _) ((hr2.setN hb3 (i := 0) rfl (fun _ => by simp) _).setN hb4 (i := 1) rfl (fun _ => by simp) _) hi2.lt (by omega)).mono ?_; rintro e w4 ⟨rfl, hn4, hg4⟩)
    refine bodyPost_end (results_none rfl _ _ _) rfl ?_
    refine ⟨⟨_, rfl⟩, ?_, ?_⟩
    · rw [hv2] at hn4; exact hn4
    · exact ((below_none hcl5).but (some B)).trans ((setCell_grown W5 ⟨B, 0, none⟩ _).trans ((setCell_grown _ ⟨B, 1, none⟩ _).trans hg4))
end Go.Proofs.Wd
