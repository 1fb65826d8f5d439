/- The walk of straitlaw05.SintLaws. -/
import Derived.Test.YtghgemeclgpibaaValsB
import Derived.Test.YtghgemeclgpibaaFlowT
import Derived.Test.YtghgemeclgpibaaLaw5D
namespace Go.Proofs.Wd
open Go.RowKit Lb
attribute [local go_sem] Oper.semAt_some wide_fn wide_depth

theorem sign_wrap (x y : Int) : IntKind.i64.wrap (x.sign * y.sign) = x.sign * y.sign := by
  rcases sign_cases x with ⟨h1, _⟩ | ⟨h1, _⟩ | ⟨h1, _⟩ <;> rcases sign_cases y with ⟨h2, _⟩ | ⟨h2, _⟩ | ⟨h2, _⟩ <;> rw [h1, h2] <;> rfl
/-- A new box of an integer. -/
def BoxP (N : Nat) (W : World) (v : Value) : Prop := ∃ B, v = .pointer (some ⟨B, 0, none⟩) ∧ N ≤ B ∧ BoxN W B 25 #[.bool false, .slice none 0 0]
theorem BoxP.below {N : Nat} {W W' : World} {v : Value} (h : BoxP N W v) (hb : Below W.heap.size W W') : BoxP N W' v := by
  obtain ⟨B, h1, h2, h3⟩ := h
  exact ⟨B, h1, h2, h3.kept hb⟩
theorem boxp_new {N : Nat} {W : World} (h : N ≤ W.heap.size) : BoxP N (W.alloc (.cells #[.bool false, .slice none 0 0] 25)) (.pointer (some ⟨W.heap.size, 0, none⟩)) := ⟨_, rfl, h, BoxN.new W _ _⟩
theorem blk_new {b : Nat} {o : Obj} (W : World) (hb : blk (.pointer (some ⟨W.heap.size, 0, none⟩)) = some b) : W.heap.size ≤ b ∧ b < (W.alloc o).heap.size := by
  cases hb
  simp
/-- An integer stored into such a box. -/
theorem box_store {W : World} {B : Nat} {t : TypeId} {b0 : Bool} {A0 : Option Addr} {n0 c0 : Nat} (h : BoxN W B t #[.bool b0, .slice A0 n0 c0]) (x : Bool) (A : Option Addr) (n c : Nat) :
    BoxN ((W.setCell ⟨B, 0, none⟩ (.bool x)).setCell ⟨B, 1, none⟩ (.slice A n c)) B t #[.bool x, .slice A n c] ∧
    (∀ B2 t2 vs, B2 ≠ B → BoxN W B2 t2 vs → BoxN ((W.setCell ⟨B, 0, none⟩ (.bool x)).setCell ⟨B, 1, none⟩ (.slice A n c)) B2 t2 vs) ∧
    (∀ N V, N ≤ B → Below N V W → Below N V ((W.setCell ⟨B, 0, none⟩ (.bool x)).setCell ⟨B, 1, none⟩ (.slice A n c))) ∧
    ∀ A' n' c' l', Rd W A' n' c' l' → Rd ((W.setCell ⟨B, 0, none⟩ (.bool x)).setCell ⟨B, 1, none⟩ (.slice A n c)) A' n' c' l' :=
  ⟨(h.set 0 _).set 1 _, fun B2 t2 vs hne h2 => (h2.other (p := ⟨B, 0, none⟩) hne _).other (p := ⟨B, 1, none⟩) hne _, fun N V hN hb => (hb.setCell (p := ⟨B, 0, none⟩) hN _).setCell (p := ⟨B, 1, none⟩) hN _,
    fun A' n' c' l' hr => (hr.setN h (i := 0) rfl (fun _ => by simp) _).setN (h.set 0 _) (i := 1) rfl (fun _ => by simp) _⟩

set_option maxRecDepth 100000 in
set_option maxHeartbeats 4000000 in
theorem laws_any (s : Bool) (A : Option Addr) (n c : Nat) (l : List Nat) (s' : Bool) (A' : Option Addr) (n' c' : Nat) (l' : List Nat) (s'' : Bool) (A'' : Option Addr) (n'' c'' : Nat) (l'' : List Nat) (w : World)
    (h : Rd w A n c l) (ht : Lt l) (h' : Rd w A' n' c' l') (ht' : Lt l') (h'' : Rd w A'' n'' c'' l'') (ht'' : Lt l'') :
    Calls Try.prog 5 #[.agg #[.bool s, .slice A n c], .agg #[.bool s', .slice A' n' c'], .agg #[.bool s'', .slice A'' n'' c'']] w fun e w' => e = .returned (.bool true) ∧ Below w.heap.size w w' := by
  have hmix : Try.prog.follows .mixedOrders = true := by kernel_rfl
  obtain ⟨W0, hW0⟩ : ∃ W0, (((w.alloc (.cells #[.bool s, .slice A n c] 25)).alloc (.cells #[.bool s', .slice A' n' c'] 25)).alloc (.cells #[.bool s'', .slice A'' n'' c''] 25)) = W0 := ⟨_, rfl⟩
  have x0 : BoxN W0 w.heap.size 25 #[.bool s, .slice A n c] := by rw [← hW0]; exact ((BoxN.new w _ _).alloc _).alloc _
  have x1 : BoxN W0 (w.heap.size + 1) 25 #[.bool s', .slice A' n' c'] := by rw [← hW0]; exact (BoxN.at_ _ _ _ (by simp)).alloc _
  have x2 : BoxN W0 (w.heap.size + 1 + 1) 25 #[.bool s'', .slice A'' n'' c''] := by rw [← hW0]; exact BoxN.at_ _ _ _ (by simp)
  have hB0 : Below w.heap.size w W0 := by rw [← hW0]; exact (((Below.refl _ w).alloc (Nat.le_refl _) _).alloc (by simp) _).alloc (by simp; omega) _
  have y : Rd W0 A n c l := h.below hB0
  have y' : Rd W0 A' n' c' l' := h'.below hB0
  have y'' : Rd W0 A'' n'' c'' l'' := h''.below hB0
  have bx : ∀ W, Below W0.heap.size W0 W → Box3 W w.heap.size s A n c s' A' n' c' s'' A'' n'' c'' := fun W hb => ⟨(x0.kept hb).facts2.1, (x1.kept hb).facts2.1, (x2.kept hb).facts2.1⟩
  have big := great_v (IS.three y ht (Nat.le_trans h.le h.cap) y' ht' (Nat.le_trans h'.le h'.cap) y'' ht'' (Nat.le_trans h''.le h''.cap) (s := s) (s' := s') (s'' := s'') 25) (Nat.le_refl _) (by simp)
  obtain ⟨g, hg⟩ : ∃ g, greatI [(s, l), (s', l'), (s'', l'')] = g := ⟨_, rfl⟩
  rw [hg] at big
  have hsz : W0.heap.size = w.heap.size + 1 + 1 + 1 := by rw [← hW0]; simp
  rw [hsz] at big
  obtain ⟨⟨a1, a2⟩, ⟨a3, a4⟩, a5, a6⟩ := bx W0 (Below.refl _ _)
  have b1 : Below W0.heap.size W0 (W0.alloc (.cells #[.bool s, .slice A n c, .bool s', .slice A' n' c', .bool s'', .slice A'' n'' c''] 25)) := (Below.refl _ _).alloc (Nat.le_refl _) _
  cases g
  case true =>
    clear hg
    go_enter Try.func5, Try.ntmps5
    go_wp2_with (first | (go_at_call 8; refine big.mono ?_; rintro e w1 ⟨rfl, rfl⟩) | (go_at_call 9; refine (wakes_any _).mono ?_; rintro e w2 ⟨rfl, b2⟩))
    go_ret
    have t1 := hB0.trans (b1.mono hB0.size)
    exact ⟨rfl, t1.trans (b2.mono t1.size)⟩
  case false =>
    obtain ⟨m1, m2, m3⟩ := great_three hg
    clear hg
    simp only at m1 m2 m3
    rw [h.len] at m1; rw [h'.len] at m2; rw [h''.len] at m3
    have ua0 : ∀ W, Below W0.heap.size W0 W → UV W 60 (.agg #[.bool s, .slice A n c]) (iv s l) := fun W hb => UV.mk (y.below hb) ht m1
    have ub0 : ∀ W, Below W0.heap.size W0 W → UV W 60 (.agg #[.bool s', .slice A' n' c']) (iv s' l') := fun W hb => UV.mk (y'.below hb) ht' m2
    have uc0 : ∀ W, Below W0.heap.size W0 W → UV W 60 (.agg #[.bool s'', .slice A'' n'' c'']) (iv s'' l'') := fun W hb => UV.mk (y''.below hb) ht'' m3
    obtain ⟨Wg, hWg⟩ : ∃ Wg, W0.alloc (.cells #[.bool s, .slice A n c, .bool s', .slice A' n' c', .bool s'', .slice A'' n'' c''] 25) = Wg := ⟨_, rfl⟩
    rw [hWg] at b1 big
    have cf0 : ∀ W, Below Wg.heap.size Wg W → Box3 W w.heap.size s A n c s' A' n' c' s'' A'' n'' c'' := fun W hb => bx W (b1.trans (hb.mono b1.size))
    have up0 : ∀ W, Below Wg.heap.size Wg W → Below W0.heap.size W0 W := fun W hb => b1.trans (hb.mono b1.size)
    obtain ⟨va, hva⟩ : ∃ v, iv s l = v := ⟨_, rfl⟩
    obtain ⟨vb, hvb⟩ : ∃ v, iv s' l' = v := ⟨_, rfl⟩
    obtain ⟨vc, hvc⟩ : ∃ v, iv s'' l'' = v := ⟨_, rfl⟩
    rw [hva] at ua0; rw [hvb] at ub0; rw [hvc] at uc0
    clear hva hvb hvc
    have ba : Bd va 60 := (ua0 W0 (Below.refl _ _)).bd
    have bb : Bd vb 60 := (ub0 W0 (Below.refl _ _)).bd
    have bc : Bd vc 60 := (uc0 W0 (Below.refl _ _)).bd
    have HUA := hid ua0; have HUB := hid ub0; have HUC := hid uc0
    clear ua0 ub0 uc0
    have ua := fun (W : World) (hb : Below W0.heap.size W0 W) => HUA.out W hb
    have ub := fun (W : World) (hb : Below W0.heap.size W0 W) => HUB.out W hb
    have uc := fun (W : World) (hb : Below W0.heap.size W0 W) => HUC.out W hb
    go_enter Try.func5, Try.ntmps5
    go_wp2_with (first | (go_at_call 8; refine big.mono ?_; rintro e Wg ⟨rfl, rfl⟩))
    refine (wpIn_wide (n := 0)).1 ?_
    refine wpIn_region_C 100000 (fun _ => True) hmix ?_
    refine flowT_at (k := 10) (fun i => i == 8 || i == 9) (fun iz vz Wz => match iz with
    | 0 => vz = .agg #[.bool s, .slice A n c]
    | 1 => vz = .agg #[.bool s', .slice A' n' c']
    | 2 => ISV Wz 60 vz [va, vb]
    | 3 => NV Wz vz (va + vb)
    | 4 => vz = .agg #[.bool s, .slice A n c]
    | 5 => vz = .agg #[.bool s', .slice A' n' c']
    | 6 => ISV Wz 60 vz [va, vb]
    | 7 => NV Wz vz (va * vb)
    | 8 => BoxP Wg.heap.size Wz vz
    | 9 => BoxP Wg.heap.size Wz vz
    | _ => True) (fun W => Below Wg.heap.size Wg W) (by kernel_rfl) (by kernel_rfl) (by kernel_rfl) (by kernel_rfl) (by kernel_rfl) (by kernel_rfl) (by kernel_rfl) (by kernel_rfl) (by kernel_rfl) (fun _ _ h hb => h.trans (hb.mono h.size)) ?stab ((Below.refl _ Wg).drew) ?spec ?fin
    case stab =>
      intro iz vz Wz Wy h hb
      split at h <;> first | exact h | exact NV.below h hb | exact ISV.below h hb | exact BoxP.below h hb | trivial
    case spec =>
      refine all_lt_succ ?_ ?h9
      refine all_lt_succ ?_ ?h8
      refine all_lt_succ ?_ ?h7
      refine all_lt_succ ?_ ?h6
      refine all_lt_succ ?_ ?h5
      refine all_lt_succ ?_ ?h4
      refine all_lt_succ ?_ ?h3
      refine all_lt_succ ?_ ?h2
      refine all_lt_succ ?_ ?h1
      refine all_lt_succ ?_ ?h0
      exact fun i h _ => absurd h (Nat.not_lt_zero i)
      case h0 =>
        intro _ o hi b5 W5 hf K hK
        cases hi
        have k3 : b5.tmps[3]?.getD undef = .pointer (some ⟨w.heap.size, 0, none⟩) := (Array.getD_eq_getD_getElem? ..).symm.trans ((hf.at_.keep 3 (by kernel_rfl)).trans (by kernel_rfl))
        obtain ⟨⟨q1, q2⟩, ⟨q3, q4⟩, q5, q6⟩ := cf0 W5 hf.at_.cls
        refine wpOpIn_step rfl (fun K' hK' => ?_)
        go_simp
        exact hK' _ _ (hK _ _ rfl (Below.refl _ _) (fun h => by cases h))
      case h1 =>
        intro _ o hi b5 W5 hf K hK
        cases hi
        have k4 : b5.tmps[4]?.getD undef = .pointer (some ⟨w.heap.size + 1, 0, none⟩) := (Array.getD_eq_getD_getElem? ..).symm.trans ((hf.at_.keep 4 (by kernel_rfl)).trans (by kernel_rfl))
        obtain ⟨⟨q1, q2⟩, ⟨q3, q4⟩, q5, q6⟩ := cf0 W5 hf.at_.cls
        refine wpOpIn_step rfl (fun K' hK' => ?_)
        go_simp
        exact hK' _ _ (hK _ _ rfl (Below.refl _ _) (fun h => by cases h))
      case h2 =>
        intro _ o hi b5 W5 hf K hK
        cases hi
        have k15 : b5.tmps[15]?.getD undef = .agg #[.bool s, .slice A n c] := (Array.getD_eq_getD_getElem? ..).symm.trans (hf.at_.vals 0 _ 15 ⟨by decide, ⟨0, .data⟩, by simp, by kernel_rfl, rfl⟩ rfl rfl)
        have k16 : b5.tmps[16]?.getD undef = .agg #[.bool s', .slice A' n' c'] := (Array.getD_eq_getD_getElem? ..).symm.trans (hf.at_.vals 1 _ 16 ⟨by decide, ⟨1, .data⟩, by simp, by kernel_rfl, rfl⟩ rfl rfl)
        have ct := ISV.two (UV.mono (ua W5 (up0 W5 hf.at_.cls)) (m' := 60) (by decide)) (UV.mono (ub W5 (up0 W5 hf.at_.cls)) (m' := 60) (by decide)) 25
        refine wpOpIn_step rfl (fun K' hK' => ?_)
        go_simp
        exact hK' _ _ (hK _ _ ct ((Below.refl _ W5).alloc (Nat.le_refl _) _) (fun h => by cases h))
      case h3 =>
        intro _ o hi b5 W5 hf K hK
        cases hi
        have v17 := hf.at_.vals 2 _ 17 ⟨by decide, ⟨2, .data⟩, by simp, by kernel_rfl, rfl⟩ rfl rfl; rw [Array.getD_eq_getD_getElem?] at v17
        have ct := add_w (k := (va + vb)) v17 (by decide) (by simp) (by simp)
        refine wpOpIn_step rfl (fun K' hK' => ?_)
        go_simp
        refine CallsIn.mono (callsIn_wide.2 ct) ?_
        rintro e W' ⟨v, rfl, hv, hb⟩
        exact hK' _ _ (hK _ _ hv hb (fun h => by cases h))
      case h4 =>
        intro _ o hi b5 W5 hf K hK
        cases hi
        have k3 : b5.tmps[3]?.getD undef = .pointer (some ⟨w.heap.size, 0, none⟩) := (Array.getD_eq_getD_getElem? ..).symm.trans ((hf.at_.keep 3 (by kernel_rfl)).trans (by kernel_rfl))
        obtain ⟨⟨q1, q2⟩, ⟨q3, q4⟩, q5, q6⟩ := cf0 W5 hf.at_.cls
        refine wpOpIn_step rfl (fun K' hK' => ?_)
        go_simp
        exact hK' _ _ (hK _ _ rfl (Below.refl _ _) (fun h => by cases h))
      case h5 =>
        intro _ o hi b5 W5 hf K hK
        cases hi
        have k4 : b5.tmps[4]?.getD undef = .pointer (some ⟨w.heap.size + 1, 0, none⟩) := (Array.getD_eq_getD_getElem? ..).symm.trans ((hf.at_.keep 4 (by kernel_rfl)).trans (by kernel_rfl))
        obtain ⟨⟨q1, q2⟩, ⟨q3, q4⟩, q5, q6⟩ := cf0 W5 hf.at_.cls
        refine wpOpIn_step rfl (fun K' hK' => ?_)
        go_simp
        exact hK' _ _ (hK _ _ rfl (Below.refl _ _) (fun h => by cases h))
      case h6 =>
        intro _ o hi b5 W5 hf K hK
        cases hi
        have k19 : b5.tmps[19]?.getD undef = .agg #[.bool s, .slice A n c] := (Array.getD_eq_getD_getElem? ..).symm.trans (hf.at_.vals 4 _ 19 ⟨by decide, ⟨4, .data⟩, by simp, by kernel_rfl, rfl⟩ rfl rfl)
        have k20 : b5.tmps[20]?.getD undef = .agg #[.bool s', .slice A' n' c'] := (Array.getD_eq_getD_getElem? ..).symm.trans (hf.at_.vals 5 _ 20 ⟨by decide, ⟨5, .data⟩, by simp, by kernel_rfl, rfl⟩ rfl rfl)
        have ct := ISV.two (UV.mono (ua W5 (up0 W5 hf.at_.cls)) (m' := 60) (by decide)) (UV.mono (ub W5 (up0 W5 hf.at_.cls)) (m' := 60) (by decide)) 25
        refine wpOpIn_step rfl (fun K' hK' => ?_)
        go_simp
        exact hK' _ _ (hK _ _ ct ((Below.refl _ W5).alloc (Nat.le_refl _) _) (fun h => by cases h))
      case h7 =>
        intro _ o hi b5 W5 hf K hK
        cases hi
        have v21 := hf.at_.vals 6 _ 21 ⟨by decide, ⟨6, .data⟩, by simp, by kernel_rfl, rfl⟩ rfl rfl; rw [Array.getD_eq_getD_getElem?] at v21
        have ct := mul_w (k := (va * vb)) v21 (by simp) (by simp) (by simp)
        refine wpOpIn_step rfl (fun K' hK' => ?_)
        go_simp
        refine CallsIn.mono (callsIn_wide.2 ct) ?_
        rintro e W' ⟨v, rfl, hv, hb⟩
        exact hK' _ _ (hK _ _ hv hb (fun h => by cases h))
      case h8 =>
        intro _ o hi b5 W5 hf K hK
        cases hi
        refine wpOpIn_step rfl (fun K' hK' => ?_)
        go_simp
        exact hK' _ _ (hK _ _ (boxp_new hf.at_.cls.size) ((Below.refl _ W5).alloc (Nat.le_refl _) _) (fun _ b hb => blk_new W5 hb))
      case h9 =>
        intro _ o hi b5 W5 hf K hK
        cases hi
        refine wpOpIn_step rfl (fun K' hK' => ?_)
        go_simp
        exact hK' _ _ (hK _ _ (boxp_new hf.at_.cls.size) ((Below.refl _ W5).alloc (Nat.le_refl _) _) (fun _ b hb => blk_new W5 hb))
    case fin =>
      intro b5 W5 hf
      have v18 := hf.at_.vals 3 _ 18 ⟨by decide, by decide⟩ rfl rfl
      have v22 := hf.at_.vals 7 _ 22 ⟨by decide, by decide⟩ rfl rfl
      have v7 := hf.at_.vals 8 _ 7 ⟨by decide, by decide⟩ rfl rfl
      have v8 := hf.at_.vals 9 _ 8 ⟨by decide, by decide⟩ rfl rfl
      have hap : ∀ b b', blk (b5.tmps.getD 7 undef) = some b → blk (b5.tmps.getD 8 undef) = some b' → b ≠ b' := fun b b' => hf.apart 8 9 _ _ 7 8 b b' ⟨by decide, by decide⟩ ⟨by decide, by decide⟩ (by decide) rfl rfl rfl rfl rfl rfl
      have hE := frame_eq [15, 16, 17, 18, 19, 20, 21, 22, 7, 8] hf.at_.size (fun t ht5 => hf.at_.keep t (not_dst (by rw [show dstList _ _ = [15, 16, 17, 18, 19, 20, 21, 22, 7, 8] from by kernel_rfl]; exact ht5)))
      have hcl5 := hf.at_.cls
      obtain ⟨tm, df⟩ := b5
      obtain rfl : df = _ := hf.at_.defers
      clear hf
      simp only [List.foldl_cons, List.foldl_nil] at hE
      obtain ⟨x18, hx18⟩ : ∃ x, tm.getD 18 undef = x := ⟨_, rfl⟩; rw [hx18] at hE; rw [show tm.getD 18 undef = _ from hx18] at v18; clear hx18
      obtain ⟨x22, hx22⟩ : ∃ x, tm.getD 22 undef = x := ⟨_, rfl⟩; rw [hx22] at hE; rw [show tm.getD 22 undef = _ from hx22] at v22; clear hx22
      obtain ⟨x7, hx7⟩ : ∃ x, tm.getD 7 undef = x := ⟨_, rfl⟩; rw [hx7] at hE; rw [show tm.getD 7 undef = _ from hx7] at v7 hap; clear hx7
      obtain ⟨x8, hx8⟩ : ∃ x, tm.getD 8 undef = x := ⟨_, rfl⟩; rw [hx8] at hE; rw [show tm.getD 8 undef = _ from hx8] at v8 hap; clear hx8
      obtain ⟨u15, hu15⟩ : ∃ x, tm.getD 15 undef = x := ⟨_, rfl⟩; rw [hu15] at hE; clear hu15
      obtain ⟨u16, hu16⟩ : ∃ x, tm.getD 16 undef = x := ⟨_, rfl⟩; rw [hu16] at hE; clear hu16
      obtain ⟨u17, hu17⟩ : ∃ x, tm.getD 17 undef = x := ⟨_, rfl⟩; rw [hu17] at hE; clear hu17
      obtain ⟨u19, hu19⟩ : ∃ x, tm.getD 19 undef = x := ⟨_, rfl⟩; rw [hu19] at hE; clear hu19
      obtain ⟨u20, hu20⟩ : ∃ x, tm.getD 20 undef = x := ⟨_, rfl⟩; rw [hu20] at hE; clear hu20
      obtain ⟨u21, hu21⟩ : ∃ x, tm.getD 21 undef = x := ⟨_, rfl⟩; rw [hu21] at hE; clear hu21
      rewrite [hE]
      clear hE
      obtain ⟨B7, rfl, hB7, hb7⟩ := v7
      obtain ⟨B8, rfl, hB8, hb8⟩ := v8
      have hne := hap B7 B8 rfl rfl
      clear hap
      obtain ⟨As, ns, cs, ls, rfl, is_, rs⟩ := v18
      obtain ⟨Ap, np, cp, lp, rfl, ip, rp⟩ := v22
      obtain ⟨j1, j2, j3, j4⟩ := box_store hb7 (decide ((va + vb) < 0)) As ns cs
      obtain ⟨⟨m0, m1⟩, m2, m3⟩ := hb7.facts2
      obtain ⟨W6, hW6⟩ : ∃ W6, (W5.setCell ⟨B7, 0, none⟩ (.bool (decide ((va + vb) < 0)))).setCell ⟨B7, 1, none⟩ (.slice As ns cs) = W6 := ⟨_, rfl⟩
      rw [hW6] at j1
      simp only [hW6] at j2 j3 j4
      have hb8' := j2 B8 _ _ (Ne.symm hne) hb8
      have b6 := j3 _ _ hB7 hcl5
      have rs6 := j4 _ _ _ _ rs
      have rp6 := j4 _ _ _ _ rp
      have x76 := j1
      clear j1 j2 j3 j4 rs rp
      go_simp
      refine oneC (i := 10) (by kernel_rfl) rfl (fun K hK => ?_)
      go_simp
      refine hK _ _ (.inr trivial) ?_
      clear hK K m0 m1 m2 m3 hb7 hb8
      obtain ⟨j1, j2, j3, j4⟩ := box_store hb8' (decide ((va * vb) < 0)) Ap np cp
      obtain ⟨⟨m0, m1⟩, m2, m3⟩ := hb8'.facts2
      obtain ⟨W7, hW7⟩ : ∃ W7, (W6.setCell ⟨B8, 0, none⟩ (.bool (decide ((va * vb) < 0)))).setCell ⟨B8, 1, none⟩ (.slice Ap np cp) = W7 := ⟨_, rfl⟩
      rw [hW7] at j1
      simp only [hW7] at j2 j3 j4
      have x7 := j2 B7 _ _ hne x76
      have x8 := j1
      have b7 := j3 _ _ hB8 b6
      have rs7 := j4 _ _ _ _ rs6
      have rp7 := j4 _ _ _ _ rp6
      clear j1 j2 j3 j4 rs6 rp6
      refine oneC (i := 11) (by kernel_rfl) rfl (fun K hK => ?_)
      go_simp
      refine hK _ _ (.inr trivial) ?_
      clear hK K m0 m1 m2 m3 hb8' hW6 hW7
      refine doneP (by kernel_rfl) ?_
      have cf1 : ∀ W, Below W7.heap.size W7 W → Box3 W w.heap.size s A n c s' A' n' c' s'' A'' n'' c'' ∧ (W.cell? ⟨B7, 0, none⟩ = some (.bool (decide ((va + vb) < 0))) ∧ W.cell? ⟨B7, 1, none⟩ = some (.slice As ns cs)) ∧ W.cell? ⟨B8, 0, none⟩ = some (.bool (decide ((va * vb) < 0))) ∧ W.cell? ⟨B8, 1, none⟩ = some (.slice Ap np cp) := fun W hb => ⟨cf0 W (b7.trans (hb.mono b7.size)), (x7.kept hb).facts2.1, (x8.kept hb).facts2.1⟩
      have nvs : ∀ W, Below W7.heap.size W7 W → NV W (.agg #[.bool (decide ((va + vb) < 0)), .slice As ns cs]) (va + vb) := fun W hb => ⟨As, ns, cs, ls, rfl, is_, rs7.below hb⟩
      have nvp : ∀ W, Below W7.heap.size W7 W → NV W (.agg #[.bool (decide ((va * vb) < 0)), .slice Ap np cp]) (va * vb) := fun W hb => ⟨Ap, np, cp, lp, rfl, ip, rp7.below hb⟩
      have up1 : ∀ W, Below W7.heap.size W7 W → Below W0.heap.size W0 W := fun W hb => up0 W (b7.trans (hb.mono b7.size))
      have dn1 : ∀ W, Below W7.heap.size W7 W → Below W7.heap.size W7 W := fun W hb => hb
      go_wp2
      refine (wpIn_wide (n := 0)).1 ?_
      refine wpIn_region_C 100000 (fun _ => True) hmix ?_
      refine flowT_at (k := 44) (fun _ => false) (fun iz vz Wz => match iz with
    | 0 => vz = .agg #[.bool (decide ((va + vb) < 0)), .slice As ns cs]
    | 1 => vz = .agg #[.bool s', .slice A' n' c']
    | 2 => vz = .agg #[.bool s, .slice A n c]
    | 3 => ISV Wz 60 vz [vb, va]
    | 4 => NV Wz vz (vb + va)
    | 5 => vz = .bool true
    | 6 => vz = .bool false
    | 7 => vz = .bool false
    | 8 => vz = .agg #[.bool (decide ((va * vb) < 0)), .slice Ap np cp]
    | 9 => vz = .agg #[.bool s', .slice A' n' c']
    | 10 => vz = .agg #[.bool s, .slice A n c]
    | 11 => ISV Wz 60 vz [vb, va]
    | 12 => NV Wz vz (vb * va)
    | 13 => vz = .bool true
    | 14 => vz = .bool false
    | 15 => vz = .bool false
    | 16 => vz = .bool false
    | 17 => vz = .agg #[.bool (decide ((va + vb) < 0)), .slice As ns cs]
    | 18 => vz = .agg #[.bool s'', .slice A'' n'' c'']
    | 19 => ISV Wz 61 vz [(va + vb), vc]
    | 20 => NV Wz vz ((va + vb) + vc)
    | 21 => vz = .agg #[.bool s, .slice A n c]
    | 22 => vz = .agg #[.bool s', .slice A' n' c']
    | 23 => vz = .agg #[.bool s'', .slice A'' n'' c'']
    | 24 => ISV Wz 60 vz [vb, vc]
    | 25 => NV Wz vz (vb + vc)
    | 26 => ISV Wz 61 vz [va, (vb + vc)]
    | 27 => NV Wz vz (va + (vb + vc))
    | 28 => vz = .bool true
    | 29 => vz = .bool false
    | 30 => vz = .bool false
    | 31 => vz = .bool false
    | 32 => vz = .agg #[.bool s, .slice A n c]
    | 33 => vz = .agg #[.bool s', .slice A' n' c']
    | 34 => vz = .agg #[.bool s'', .slice A'' n'' c'']
    | 35 => ISV Wz 60 vz [va, vb, vc]
    | 36 => NV Wz vz ((va + vb) + vc)
    | 37 => vz = .agg #[.bool (decide ((va + vb) < 0)), .slice As ns cs]
    | 38 => vz = .agg #[.bool s'', .slice A'' n'' c'']
    | 39 => ISV Wz 61 vz [(va + vb), vc]
    | 40 => NV Wz vz ((va + vb) + vc)
    | 41 => vz = .bool true
    | 42 => vz = .bool false
    | 43 => vz = .bool false
    | _ => True) (fun W => Below W7.heap.size W7 W) (by kernel_rfl) (by kernel_rfl) (by kernel_rfl) (by kernel_rfl) (by kernel_rfl) (by kernel_rfl) (by kernel_rfl) (by kernel_rfl) (by kernel_rfl) (fun _ _ h hb => h.trans (hb.mono h.size)) ?stab ((Below.refl _ W7).drew) ?spec ?fin
      case stab =>
        intro iz vz Wz Wy h hb
        split at h <;> first | exact h | exact NV.below h hb | exact ISV.below h hb | trivial
      case spec =>
        refine all_lt_succ ?_ ?h43
        refine all_lt_succ ?_ ?h42
        refine all_lt_succ ?_ ?h41
        refine all_lt_succ ?_ ?h40
        refine all_lt_succ ?_ ?h39
        refine all_lt_succ ?_ ?h38
        refine all_lt_succ ?_ ?h37
        refine all_lt_succ ?_ ?h36
        refine all_lt_succ ?_ ?h35
        refine all_lt_succ ?_ ?h34
        refine all_lt_succ ?_ ?h33
        refine all_lt_succ ?_ ?h32
        refine all_lt_succ ?_ ?h31
        refine all_lt_succ ?_ ?h30
        refine all_lt_succ ?_ ?h29
        refine all_lt_succ ?_ ?h28
        refine all_lt_succ ?_ ?h27
        refine all_lt_succ ?_ ?h26
        refine all_lt_succ ?_ ?h25
        refine all_lt_succ ?_ ?h24
        refine all_lt_succ ?_ ?h23
        refine all_lt_succ ?_ ?h22
        refine all_lt_succ ?_ ?h21
        refine all_lt_succ ?_ ?h20
        refine all_lt_succ ?_ ?h19
        refine all_lt_succ ?_ ?h18
        refine all_lt_succ ?_ ?h17
        refine all_lt_succ ?_ ?h16
        refine all_lt_succ ?_ ?h15
        refine all_lt_succ ?_ ?h14
        refine all_lt_succ ?_ ?h13
        refine all_lt_succ ?_ ?h12
        refine all_lt_succ ?_ ?h11
        refine all_lt_succ ?_ ?h10
        refine all_lt_succ ?_ ?h9
        refine all_lt_succ ?_ ?h8
        refine all_lt_succ ?_ ?h7
        refine all_lt_succ ?_ ?h6
        refine all_lt_succ ?_ ?h5
        refine all_lt_succ ?_ ?h4
        refine all_lt_succ ?_ ?h3
        refine all_lt_succ ?_ ?h2
        refine all_lt_succ ?_ ?h1
        refine all_lt_succ ?_ ?h0
        exact fun i h _ => absurd h (Nat.not_lt_zero i)
        case h0 =>
          intro _ o hi b5 W5 hf K hK
          cases hi
          have k7 : b5.tmps[7]?.getD undef = .pointer (some ⟨B7, 0, none⟩) := (Array.getD_eq_getD_getElem? ..).symm.trans ((hf.at_.keep 7 (by kernel_rfl)).trans (by kernel_rfl))
          obtain ⟨⟨⟨q1, q2⟩, ⟨q3, q4⟩, q5, q6⟩, ⟨q7, q8⟩, q9, q10⟩ := cf1 W5 hf.at_.cls
          refine wpOpIn_step rfl (fun K' hK' => ?_)
          go_simp
          exact hK' _ _ (hK _ _ rfl (Below.refl _ _) (fun h => by cases h))
        case h1 =>
          intro _ o hi b5 W5 hf K hK
          cases hi
          have k4 : b5.tmps[4]?.getD undef = .pointer (some ⟨w.heap.size + 1, 0, none⟩) := (Array.getD_eq_getD_getElem? ..).symm.trans ((hf.at_.keep 4 (by kernel_rfl)).trans (by kernel_rfl))
          obtain ⟨⟨⟨q1, q2⟩, ⟨q3, q4⟩, q5, q6⟩, ⟨q7, q8⟩, q9, q10⟩ := cf1 W5 hf.at_.cls
          refine wpOpIn_step rfl (fun K' hK' => ?_)
          go_simp
          exact hK' _ _ (hK _ _ rfl (Below.refl _ _) (fun h => by cases h))
        case h2 =>
          intro _ o hi b5 W5 hf K hK
          cases hi
          have k3 : b5.tmps[3]?.getD undef = .pointer (some ⟨w.heap.size, 0, none⟩) := (Array.getD_eq_getD_getElem? ..).symm.trans ((hf.at_.keep 3 (by kernel_rfl)).trans (by kernel_rfl))
          obtain ⟨⟨⟨q1, q2⟩, ⟨q3, q4⟩, q5, q6⟩, ⟨q7, q8⟩, q9, q10⟩ := cf1 W5 hf.at_.cls
          refine wpOpIn_step rfl (fun K' hK' => ?_)
          go_simp
          exact hK' _ _ (hK _ _ rfl (Below.refl _ _) (fun h => by cases h))
        case h3 =>
          intro _ o hi b5 W5 hf K hK
          cases hi
          have k24 : b5.tmps[24]?.getD undef = .agg #[.bool s', .slice A' n' c'] := (Array.getD_eq_getD_getElem? ..).symm.trans (hf.at_.vals 1 _ 24 ⟨by decide, ⟨1, .data⟩, by simp, by kernel_rfl, rfl⟩ rfl rfl)
          have k25 : b5.tmps[25]?.getD undef = .agg #[.bool s, .slice A n c] := (Array.getD_eq_getD_getElem? ..).symm.trans (hf.at_.vals 2 _ 25 ⟨by decide, ⟨2, .data⟩, by simp, by kernel_rfl, rfl⟩ rfl rfl)
          have ct := ISV.two (UV.mono (ub W5 (up1 W5 hf.at_.cls)) (m' := 60) (by decide)) (UV.mono (ua W5 (up1 W5 hf.at_.cls)) (m' := 60) (by decide)) 25
          refine wpOpIn_step rfl (fun K' hK' => ?_)
          go_simp
          exact hK' _ _ (hK _ _ ct ((Below.refl _ W5).alloc (Nat.le_refl _) _) (fun h => by cases h))
        case h4 =>
          intro _ o hi b5 W5 hf K hK
          cases hi
          have v26 := hf.at_.vals 3 _ 26 ⟨by decide, ⟨3, .data⟩, by simp, by kernel_rfl, rfl⟩ rfl rfl; rw [Array.getD_eq_getD_getElem?] at v26
          have ct := add_w (k := (vb + va)) v26 (by decide) (by simp) (by simp)
          refine wpOpIn_step rfl (fun K' hK' => ?_)
          go_simp
          refine CallsIn.mono (callsIn_wide.2 ct) ?_
          rintro e W' ⟨v, rfl, hv, hb⟩
          exact hK' _ _ (hK _ _ hv hb (fun h => by cases h))
        case h5 =>
          intro _ o hi b5 W5 hf K hK
          cases hi
          have k23 : b5.tmps[23]?.getD undef = .agg #[.bool (decide ((va + vb) < 0)), .slice As ns cs] := (Array.getD_eq_getD_getElem? ..).symm.trans (hf.at_.vals 0 _ 23 ⟨by decide, ⟨0, .data⟩, by simp, by kernel_rfl, rfl⟩ rfl rfl)
          have v27 := hf.at_.vals 4 _ 27 ⟨by decide, ⟨4, .data⟩, by simp, by kernel_rfl, rfl⟩ rfl rfl; rw [Array.getD_eq_getD_getElem?] at v27
          have ct := lawsame_t (nvs W5 (dn1 W5 hf.at_.cls)) v27 (show (va + vb) = (vb + va) from by grind)
          refine wpOpIn_step rfl (fun K' hK' => ?_)
          go_simp
          refine CallsIn.mono (callsIn_wide.2 ct) ?_
          rintro e W' ⟨rfl, hb⟩
          exact hK' _ _ (hK _ _ rfl hb (fun h => by cases h))
        case h6 =>
          intro _ o hi b5 W5 hf K hK
          cases hi
          have k28 : b5.tmps[28]?.getD undef = .bool true := (Array.getD_eq_getD_getElem? ..).symm.trans (hf.at_.vals 5 _ 28 ⟨by decide, ⟨5, .data⟩, by simp, by kernel_rfl, rfl⟩ rfl rfl)
          refine wpOpIn_step rfl (fun K' hK' => ?_)
          go_simp
          exact hK' _ _ (hK _ _ rfl (Below.refl _ _) (fun h => by cases h))
        case h7 =>
          intro _ o hi b5 W5 hf K hK
          cases hi
          have k29 : b5.tmps[29]?.getD undef = .bool false := (Array.getD_eq_getD_getElem? ..).symm.trans (hf.at_.vals 6 _ 29 ⟨by decide, ⟨6, .data⟩, by simp, by kernel_rfl, rfl⟩ rfl rfl)
          refine wpOpIn_step rfl (fun K' hK' => ?_)
          go_simp
          exact hK' _ _ (hK _ _ rfl (Below.refl _ _) (fun h => by cases h))
        case h8 =>
          intro _ o hi b5 W5 hf K hK
          cases hi
          have k30 : b5.tmps[30]?.getD undef = .bool false := (Array.getD_eq_getD_getElem? ..).symm.trans (hf.at_.vals 7 _ 30 ⟨by decide, ⟨7, .guard⟩, by simp, by kernel_rfl, rfl⟩ rfl rfl)
          have g30 := some_bool k30
          have k8 : b5.tmps[8]?.getD undef = .pointer (some ⟨B8, 0, none⟩) := (Array.getD_eq_getD_getElem? ..).symm.trans ((hf.at_.keep 8 (by kernel_rfl)).trans (by kernel_rfl))
          obtain ⟨⟨⟨q1, q2⟩, ⟨q3, q4⟩, q5, q6⟩, ⟨q7, q8⟩, q9, q10⟩ := cf1 W5 hf.at_.cls
          refine wpOpIn_step rfl (fun K' hK' => ?_)
          go_simp
          exact hK' _ _ (hK _ _ rfl (Below.refl _ _) (fun h => by cases h))
        case h9 =>
          intro _ o hi b5 W5 hf K hK
          cases hi
          have k30 : b5.tmps[30]?.getD undef = .bool false := (Array.getD_eq_getD_getElem? ..).symm.trans (hf.at_.vals 7 _ 30 ⟨by decide, ⟨7, .guard⟩, by simp, by kernel_rfl, rfl⟩ rfl rfl)
          have g30 := some_bool k30
          have k4 : b5.tmps[4]?.getD undef = .pointer (some ⟨w.heap.size + 1, 0, none⟩) := (Array.getD_eq_getD_getElem? ..).symm.trans ((hf.at_.keep 4 (by kernel_rfl)).trans (by kernel_rfl))
          obtain ⟨⟨⟨q1, q2⟩, ⟨q3, q4⟩, q5, q6⟩, ⟨q7, q8⟩, q9, q10⟩ := cf1 W5 hf.at_.cls
          refine wpOpIn_step rfl (fun K' hK' => ?_)
          go_simp
          exact hK' _ _ (hK _ _ rfl (Below.refl _ _) (fun h => by cases h))
        case h10 =>
          intro _ o hi b5 W5 hf K hK
          cases hi
          have k30 : b5.tmps[30]?.getD undef = .bool false := (Array.getD_eq_getD_getElem? ..).symm.trans (hf.at_.vals 7 _ 30 ⟨by decide, ⟨7, .guard⟩, by simp, by kernel_rfl, rfl⟩ rfl rfl)
          have g30 := some_bool k30
          have k3 : b5.tmps[3]?.getD undef = .pointer (some ⟨w.heap.size, 0, none⟩) := (Array.getD_eq_getD_getElem? ..).symm.trans ((hf.at_.keep 3 (by kernel_rfl)).trans (by kernel_rfl))
          obtain ⟨⟨⟨q1, q2⟩, ⟨q3, q4⟩, q5, q6⟩, ⟨q7, q8⟩, q9, q10⟩ := cf1 W5 hf.at_.cls
          refine wpOpIn_step rfl (fun K' hK' => ?_)
          go_simp
          exact hK' _ _ (hK _ _ rfl (Below.refl _ _) (fun h => by cases h))
        case h11 =>
          intro _ o hi b5 W5 hf K hK
          cases hi
          have k30 : b5.tmps[30]?.getD undef = .bool false := (Array.getD_eq_getD_getElem? ..).symm.trans (hf.at_.vals 7 _ 30 ⟨by decide, ⟨7, .guard⟩, by simp, by kernel_rfl, rfl⟩ rfl rfl)
          have g30 := some_bool k30
          have k32 : b5.tmps[32]?.getD undef = .agg #[.bool s', .slice A' n' c'] := (Array.getD_eq_getD_getElem? ..).symm.trans (hf.at_.vals 9 _ 32 ⟨by decide, ⟨9, .data⟩, by simp, by kernel_rfl, rfl⟩ rfl rfl)
          have k33 : b5.tmps[33]?.getD undef = .agg #[.bool s, .slice A n c] := (Array.getD_eq_getD_getElem? ..).symm.trans (hf.at_.vals 10 _ 33 ⟨by decide, ⟨10, .data⟩, by simp, by kernel_rfl, rfl⟩ rfl rfl)
          have ct := ISV.two (UV.mono (ub W5 (up1 W5 hf.at_.cls)) (m' := 60) (by decide)) (UV.mono (ua W5 (up1 W5 hf.at_.cls)) (m' := 60) (by decide)) 25
          refine wpOpIn_step rfl (fun K' hK' => ?_)
          go_simp
          exact hK' _ _ (hK _ _ ct ((Below.refl _ W5).alloc (Nat.le_refl _) _) (fun h => by cases h))
        case h12 =>
          intro _ o hi b5 W5 hf K hK
          cases hi
          have k30 : b5.tmps[30]?.getD undef = .bool false := (Array.getD_eq_getD_getElem? ..).symm.trans (hf.at_.vals 7 _ 30 ⟨by decide, ⟨7, .chain⟩, by simp, by kernel_rfl, rfl⟩ rfl rfl)
          have g30 := some_bool k30
          have v34 := hf.at_.vals 11 _ 34 ⟨by decide, ⟨11, .data⟩, by simp, by kernel_rfl, rfl⟩ rfl rfl; rw [Array.getD_eq_getD_getElem?] at v34
          have ct := mul_w (k := (vb * va)) v34 (by simp) (by simp) (by simp)
          refine wpOpIn_step rfl (fun K' hK' => ?_)
          go_simp
          refine CallsIn.mono (callsIn_wide.2 ct) ?_
          rintro e W' ⟨v, rfl, hv, hb⟩
          exact hK' _ _ (hK _ _ hv hb (fun h => by cases h))
        case h13 =>
          intro _ o hi b5 W5 hf K hK
          cases hi
          have k30 : b5.tmps[30]?.getD undef = .bool false := (Array.getD_eq_getD_getElem? ..).symm.trans (hf.at_.vals 7 _ 30 ⟨by decide, ⟨7, .guard⟩, by simp, by kernel_rfl, rfl⟩ rfl rfl)
          have g30 := some_bool k30
          have k31 : b5.tmps[31]?.getD undef = .agg #[.bool (decide ((va * vb) < 0)), .slice Ap np cp] := (Array.getD_eq_getD_getElem? ..).symm.trans (hf.at_.vals 8 _ 31 ⟨by decide, ⟨8, .data⟩, by simp, by kernel_rfl, rfl⟩ rfl rfl)
          have v35 := hf.at_.vals 12 _ 35 ⟨by decide, ⟨12, .data⟩, by simp, by kernel_rfl, rfl⟩ rfl rfl; rw [Array.getD_eq_getD_getElem?] at v35
          have ct := lawsame_t (nvp W5 (dn1 W5 hf.at_.cls)) v35 (show (va * vb) = (vb * va) from by grind)
          refine wpOpIn_step rfl (fun K' hK' => ?_)
          go_simp
          refine CallsIn.mono (callsIn_wide.2 ct) ?_
          rintro e W' ⟨rfl, hb⟩
          exact hK' _ _ (hK _ _ rfl hb (fun h => by cases h))
        case h14 =>
          intro _ o hi b5 W5 hf K hK
          cases hi
          have k30 : b5.tmps[30]?.getD undef = .bool false := (Array.getD_eq_getD_getElem? ..).symm.trans (hf.at_.vals 7 _ 30 ⟨by decide, ⟨7, .guard⟩, by simp, by kernel_rfl, rfl⟩ rfl rfl)
          have g30 := some_bool k30
          have k36 : b5.tmps[36]?.getD undef = .bool true := (Array.getD_eq_getD_getElem? ..).symm.trans (hf.at_.vals 13 _ 36 ⟨by decide, ⟨13, .data⟩, by simp, by kernel_rfl, rfl⟩ rfl rfl)
          refine wpOpIn_step rfl (fun K' hK' => ?_)
          go_simp
          exact hK' _ _ (hK _ _ rfl (Below.refl _ _) (fun h => by cases h))
        case h15 =>
          intro _ o hi b5 W5 hf K hK
          cases hi
          have k30 : b5.tmps[30]?.getD undef = .bool false := (Array.getD_eq_getD_getElem? ..).symm.trans (hf.at_.vals 7 _ 30 ⟨by decide, ⟨7, .data⟩, by simp, by kernel_rfl, rfl⟩ rfl rfl)
          have k37 : b5.tmps[37]?.getD undef = .bool false := (Array.getD_eq_getD_getElem? ..).symm.trans (hf.at_.vals 14 _ 37 ⟨by decide, ⟨14, .data⟩, by simp, by kernel_rfl, rfl⟩ rfl rfl)
          refine wpOpIn_step rfl (fun K' hK' => ?_)
          go_simp
          exact hK' _ _ (hK _ _ rfl (Below.refl _ _) (fun h => by cases h))
        case h16 =>
          intro _ o hi b5 W5 hf K hK
          cases hi
          have k38 : b5.tmps[38]?.getD undef = .bool false := (Array.getD_eq_getD_getElem? ..).symm.trans (hf.at_.vals 15 _ 38 ⟨by decide, ⟨15, .data⟩, by simp, by kernel_rfl, rfl⟩ rfl rfl)
          refine wpOpIn_step rfl (fun K' hK' => ?_)
          go_simp
          exact hK' _ _ (hK _ _ rfl (Below.refl _ _) (fun h => by cases h))
        case h17 =>
          intro _ o hi b5 W5 hf K hK
          cases hi
          have k39 : b5.tmps[39]?.getD undef = .bool false := (Array.getD_eq_getD_getElem? ..).symm.trans (hf.at_.vals 16 _ 39 ⟨by decide, ⟨16, .guard⟩, by simp, by kernel_rfl, rfl⟩ rfl rfl)
          have g39 := some_bool k39
          have k7 : b5.tmps[7]?.getD undef = .pointer (some ⟨B7, 0, none⟩) := (Array.getD_eq_getD_getElem? ..).symm.trans ((hf.at_.keep 7 (by kernel_rfl)).trans (by kernel_rfl))
          obtain ⟨⟨⟨q1, q2⟩, ⟨q3, q4⟩, q5, q6⟩, ⟨q7, q8⟩, q9, q10⟩ := cf1 W5 hf.at_.cls
          refine wpOpIn_step rfl (fun K' hK' => ?_)
          go_simp
          exact hK' _ _ (hK _ _ rfl (Below.refl _ _) (fun h => by cases h))
        case h18 =>
          intro _ o hi b5 W5 hf K hK
          cases hi
          have k39 : b5.tmps[39]?.getD undef = .bool false := (Array.getD_eq_getD_getElem? ..).symm.trans (hf.at_.vals 16 _ 39 ⟨by decide, ⟨16, .guard⟩, by simp, by kernel_rfl, rfl⟩ rfl rfl)
          have g39 := some_bool k39
          have k5 : b5.tmps[5]?.getD undef = .pointer (some ⟨w.heap.size + 1 + 1, 0, none⟩) := (Array.getD_eq_getD_getElem? ..).symm.trans ((hf.at_.keep 5 (by kernel_rfl)).trans (by kernel_rfl))
          obtain ⟨⟨⟨q1, q2⟩, ⟨q3, q4⟩, q5, q6⟩, ⟨q7, q8⟩, q9, q10⟩ := cf1 W5 hf.at_.cls
          refine wpOpIn_step rfl (fun K' hK' => ?_)
          go_simp
          exact hK' _ _ (hK _ _ rfl (Below.refl _ _) (fun h => by cases h))
        case h19 =>
          intro _ o hi b5 W5 hf K hK
          cases hi
          have k39 : b5.tmps[39]?.getD undef = .bool false := (Array.getD_eq_getD_getElem? ..).symm.trans (hf.at_.vals 16 _ 39 ⟨by decide, ⟨16, .guard⟩, by simp, by kernel_rfl, rfl⟩ rfl rfl)
          have g39 := some_bool k39
          have k40 : b5.tmps[40]?.getD undef = .agg #[.bool (decide ((va + vb) < 0)), .slice As ns cs] := (Array.getD_eq_getD_getElem? ..).symm.trans (hf.at_.vals 17 _ 40 ⟨by decide, ⟨17, .data⟩, by simp, by kernel_rfl, rfl⟩ rfl rfl)
          have k41 : b5.tmps[41]?.getD undef = .agg #[.bool s'', .slice A'' n'' c''] := (Array.getD_eq_getD_getElem? ..).symm.trans (hf.at_.vals 18 _ 41 ⟨by decide, ⟨18, .data⟩, by simp, by kernel_rfl, rfl⟩ rfl rfl)
          have ct := ISV.two (NV.uv' (nvs W5 (dn1 W5 hf.at_.cls)) (Bd.add ba bb)) (UV.mono (uc W5 (up1 W5 hf.at_.cls)) (m' := 61) (by decide)) 25
          refine wpOpIn_step rfl (fun K' hK' => ?_)
          go_simp
          exact hK' _ _ (hK _ _ ct ((Below.refl _ W5).alloc (Nat.le_refl _) _) (fun h => by cases h))
        case h20 =>
          intro _ o hi b5 W5 hf K hK
          cases hi
          have k39 : b5.tmps[39]?.getD undef = .bool false := (Array.getD_eq_getD_getElem? ..).symm.trans (hf.at_.vals 16 _ 39 ⟨by decide, ⟨16, .chain⟩, by simp, by kernel_rfl, rfl⟩ rfl rfl)
          have g39 := some_bool k39
          have v42 := hf.at_.vals 19 _ 42 ⟨by decide, ⟨19, .data⟩, by simp, by kernel_rfl, rfl⟩ rfl rfl; rw [Array.getD_eq_getD_getElem?] at v42
          have ct := add_w (k := ((va + vb) + vc)) v42 (by decide) (by simp) (by simp)
          refine wpOpIn_step rfl (fun K' hK' => ?_)
          go_simp
          refine CallsIn.mono (callsIn_wide.2 ct) ?_
          rintro e W' ⟨v, rfl, hv, hb⟩
          exact hK' _ _ (hK _ _ hv hb (fun h => by cases h))
        case h21 =>
          intro _ o hi b5 W5 hf K hK
          cases hi
          have k39 : b5.tmps[39]?.getD undef = .bool false := (Array.getD_eq_getD_getElem? ..).symm.trans (hf.at_.vals 16 _ 39 ⟨by decide, ⟨16, .guard⟩, by simp, by kernel_rfl, rfl⟩ rfl rfl)
          have g39 := some_bool k39
          have k3 : b5.tmps[3]?.getD undef = .pointer (some ⟨w.heap.size, 0, none⟩) := (Array.getD_eq_getD_getElem? ..).symm.trans ((hf.at_.keep 3 (by kernel_rfl)).trans (by kernel_rfl))
          obtain ⟨⟨⟨q1, q2⟩, ⟨q3, q4⟩, q5, q6⟩, ⟨q7, q8⟩, q9, q10⟩ := cf1 W5 hf.at_.cls
          refine wpOpIn_step rfl (fun K' hK' => ?_)
          go_simp
          exact hK' _ _ (hK _ _ rfl (Below.refl _ _) (fun h => by cases h))
        case h22 =>
          intro _ o hi b5 W5 hf K hK
          cases hi
          have k39 : b5.tmps[39]?.getD undef = .bool false := (Array.getD_eq_getD_getElem? ..).symm.trans (hf.at_.vals 16 _ 39 ⟨by decide, ⟨16, .guard⟩, by simp, by kernel_rfl, rfl⟩ rfl rfl)
          have g39 := some_bool k39
          have k4 : b5.tmps[4]?.getD undef = .pointer (some ⟨w.heap.size + 1, 0, none⟩) := (Array.getD_eq_getD_getElem? ..).symm.trans ((hf.at_.keep 4 (by kernel_rfl)).trans (by kernel_rfl))
          obtain ⟨⟨⟨q1, q2⟩, ⟨q3, q4⟩, q5, q6⟩, ⟨q7, q8⟩, q9, q10⟩ := cf1 W5 hf.at_.cls
          refine wpOpIn_step rfl (fun K' hK' => ?_)
          go_simp
          exact hK' _ _ (hK _ _ rfl (Below.refl _ _) (fun h => by cases h))
        case h23 =>
          intro _ o hi b5 W5 hf K hK
          cases hi
          have k39 : b5.tmps[39]?.getD undef = .bool false := (Array.getD_eq_getD_getElem? ..).symm.trans (hf.at_.vals 16 _ 39 ⟨by decide, ⟨16, .guard⟩, by simp, by kernel_rfl, rfl⟩ rfl rfl)
          have g39 := some_bool k39
          have k5 : b5.tmps[5]?.getD undef = .pointer (some ⟨w.heap.size + 1 + 1, 0, none⟩) := (Array.getD_eq_getD_getElem? ..).symm.trans ((hf.at_.keep 5 (by kernel_rfl)).trans (by kernel_rfl))
          obtain ⟨⟨⟨q1, q2⟩, ⟨q3, q4⟩, q5, q6⟩, ⟨q7, q8⟩, q9, q10⟩ := cf1 W5 hf.at_.cls
          refine wpOpIn_step rfl (fun K' hK' => ?_)
          go_simp
          exact hK' _ _ (hK _ _ rfl (Below.refl _ _) (fun h => by cases h))
        case h24 =>
          intro _ o hi b5 W5 hf K hK
          cases hi
          have k39 : b5.tmps[39]?.getD undef = .bool false := (Array.getD_eq_getD_getElem? ..).symm.trans (hf.at_.vals 16 _ 39 ⟨by decide, ⟨16, .guard⟩, by simp, by kernel_rfl, rfl⟩ rfl rfl)
          have g39 := some_bool k39
          have k45 : b5.tmps[45]?.getD undef = .agg #[.bool s', .slice A' n' c'] := (Array.getD_eq_getD_getElem? ..).symm.trans (hf.at_.vals 22 _ 45 ⟨by decide, ⟨22, .data⟩, by simp, by kernel_rfl, rfl⟩ rfl rfl)
          have k46 : b5.tmps[46]?.getD undef = .agg #[.bool s'', .slice A'' n'' c''] := (Array.getD_eq_getD_getElem? ..).symm.trans (hf.at_.vals 23 _ 46 ⟨by decide, ⟨23, .data⟩, by simp, by kernel_rfl, rfl⟩ rfl rfl)
          have ct := ISV.two (UV.mono (ub W5 (up1 W5 hf.at_.cls)) (m' := 60) (by decide)) (UV.mono (uc W5 (up1 W5 hf.at_.cls)) (m' := 60) (by decide)) 25
          refine wpOpIn_step rfl (fun K' hK' => ?_)
          go_simp
          exact hK' _ _ (hK _ _ ct ((Below.refl _ W5).alloc (Nat.le_refl _) _) (fun h => by cases h))
        case h25 =>
          intro _ o hi b5 W5 hf K hK
          cases hi
          have k39 : b5.tmps[39]?.getD undef = .bool false := (Array.getD_eq_getD_getElem? ..).symm.trans (hf.at_.vals 16 _ 39 ⟨by decide, ⟨16, .guard⟩, by simp, by kernel_rfl, rfl⟩ rfl rfl)
          have g39 := some_bool k39
          have v47 := hf.at_.vals 24 _ 47 ⟨by decide, ⟨24, .data⟩, by simp, by kernel_rfl, rfl⟩ rfl rfl; rw [Array.getD_eq_getD_getElem?] at v47
          have ct := add_w (k := (vb + vc)) v47 (by decide) (by simp) (by simp)
          refine wpOpIn_step rfl (fun K' hK' => ?_)
          go_simp
          refine CallsIn.mono (callsIn_wide.2 ct) ?_
          rintro e W' ⟨v, rfl, hv, hb⟩
          exact hK' _ _ (hK _ _ hv hb (fun h => by cases h))
        case h26 =>
          intro _ o hi b5 W5 hf K hK
          cases hi
          have k39 : b5.tmps[39]?.getD undef = .bool false := (Array.getD_eq_getD_getElem? ..).symm.trans (hf.at_.vals 16 _ 39 ⟨by decide, ⟨16, .guard⟩, by simp, by kernel_rfl, rfl⟩ rfl rfl)
          have g39 := some_bool k39
          have k44 : b5.tmps[44]?.getD undef = .agg #[.bool s, .slice A n c] := (Array.getD_eq_getD_getElem? ..).symm.trans (hf.at_.vals 21 _ 44 ⟨by decide, ⟨21, .data⟩, by simp, by kernel_rfl, rfl⟩ rfl rfl)
          have v48 := hf.at_.vals 25 _ 48 ⟨by decide, ⟨25, .data⟩, by simp, by kernel_rfl, rfl⟩ rfl rfl; rw [Array.getD_eq_getD_getElem?] at v48
          obtain ⟨s48, A48, n48, c48, k48, w48⟩ := NV.open v48 (Bd.add bb bc)
          have ct := ISV.two (UV.mono (ua W5 (up1 W5 hf.at_.cls)) (m' := 61) (by decide)) w48 25
          refine wpOpIn_step rfl (fun K' hK' => ?_)
          go_simp
          exact hK' _ _ (hK _ _ ct ((Below.refl _ W5).alloc (Nat.le_refl _) _) (fun h => by cases h))
        case h27 =>
          intro _ o hi b5 W5 hf K hK
          cases hi
          have k39 : b5.tmps[39]?.getD undef = .bool false := (Array.getD_eq_getD_getElem? ..).symm.trans (hf.at_.vals 16 _ 39 ⟨by decide, ⟨16, .guard⟩, by simp, by kernel_rfl, rfl⟩ rfl rfl)
          have g39 := some_bool k39
          have v49 := hf.at_.vals 26 _ 49 ⟨by decide, ⟨26, .data⟩, by simp, by kernel_rfl, rfl⟩ rfl rfl; rw [Array.getD_eq_getD_getElem?] at v49
          have ct := add_w (k := (va + (vb + vc))) v49 (by decide) (by simp) (by simp)
          refine wpOpIn_step rfl (fun K' hK' => ?_)
          go_simp
          refine CallsIn.mono (callsIn_wide.2 ct) ?_
          rintro e W' ⟨v, rfl, hv, hb⟩
          exact hK' _ _ (hK _ _ hv hb (fun h => by cases h))
        case h28 =>
          intro _ o hi b5 W5 hf K hK
          cases hi
          have k39 : b5.tmps[39]?.getD undef = .bool false := (Array.getD_eq_getD_getElem? ..).symm.trans (hf.at_.vals 16 _ 39 ⟨by decide, ⟨16, .guard⟩, by simp, by kernel_rfl, rfl⟩ rfl rfl)
          have g39 := some_bool k39
          have v43 := hf.at_.vals 20 _ 43 ⟨by decide, ⟨20, .data⟩, by simp, by kernel_rfl, rfl⟩ rfl rfl; rw [Array.getD_eq_getD_getElem?] at v43
          have v50 := hf.at_.vals 27 _ 50 ⟨by decide, ⟨27, .data⟩, by simp, by kernel_rfl, rfl⟩ rfl rfl; rw [Array.getD_eq_getD_getElem?] at v50
          have ct := lawsame_t v43 v50 (show ((va + vb) + vc) = (va + (vb + vc)) from by grind)
          refine wpOpIn_step rfl (fun K' hK' => ?_)
          go_simp
          refine CallsIn.mono (callsIn_wide.2 ct) ?_
          rintro e W' ⟨rfl, hb⟩
          exact hK' _ _ (hK _ _ rfl hb (fun h => by cases h))
        case h29 =>
          intro _ o hi b5 W5 hf K hK
          cases hi
          have k39 : b5.tmps[39]?.getD undef = .bool false := (Array.getD_eq_getD_getElem? ..).symm.trans (hf.at_.vals 16 _ 39 ⟨by decide, ⟨16, .guard⟩, by simp, by kernel_rfl, rfl⟩ rfl rfl)
          have g39 := some_bool k39
          have k51 : b5.tmps[51]?.getD undef = .bool true := (Array.getD_eq_getD_getElem? ..).symm.trans (hf.at_.vals 28 _ 51 ⟨by decide, ⟨28, .data⟩, by simp, by kernel_rfl, rfl⟩ rfl rfl)
          refine wpOpIn_step rfl (fun K' hK' => ?_)
          go_simp
          exact hK' _ _ (hK _ _ rfl (Below.refl _ _) (fun h => by cases h))
        case h30 =>
          intro _ o hi b5 W5 hf K hK
          cases hi
          have k39 : b5.tmps[39]?.getD undef = .bool false := (Array.getD_eq_getD_getElem? ..).symm.trans (hf.at_.vals 16 _ 39 ⟨by decide, ⟨16, .data⟩, by simp, by kernel_rfl, rfl⟩ rfl rfl)
          have k52 : b5.tmps[52]?.getD undef = .bool false := (Array.getD_eq_getD_getElem? ..).symm.trans (hf.at_.vals 29 _ 52 ⟨by decide, ⟨29, .data⟩, by simp, by kernel_rfl, rfl⟩ rfl rfl)
          refine wpOpIn_step rfl (fun K' hK' => ?_)
          go_simp
          exact hK' _ _ (hK _ _ rfl (Below.refl _ _) (fun h => by cases h))
        case h31 =>
          intro _ o hi b5 W5 hf K hK
          cases hi
          have k53 : b5.tmps[53]?.getD undef = .bool false := (Array.getD_eq_getD_getElem? ..).symm.trans (hf.at_.vals 30 _ 53 ⟨by decide, ⟨30, .data⟩, by simp, by kernel_rfl, rfl⟩ rfl rfl)
          refine wpOpIn_step rfl (fun K' hK' => ?_)
          go_simp
          exact hK' _ _ (hK _ _ rfl (Below.refl _ _) (fun h => by cases h))
        case h32 =>
          intro _ o hi b5 W5 hf K hK
          cases hi
          have k54 : b5.tmps[54]?.getD undef = .bool false := (Array.getD_eq_getD_getElem? ..).symm.trans (hf.at_.vals 31 _ 54 ⟨by decide, ⟨31, .guard⟩, by simp, by kernel_rfl, rfl⟩ rfl rfl)
          have g54 := some_bool k54
          have k3 : b5.tmps[3]?.getD undef = .pointer (some ⟨w.heap.size, 0, none⟩) := (Array.getD_eq_getD_getElem? ..).symm.trans ((hf.at_.keep 3 (by kernel_rfl)).trans (by kernel_rfl))
          obtain ⟨⟨⟨q1, q2⟩, ⟨q3, q4⟩, q5, q6⟩, ⟨q7, q8⟩, q9, q10⟩ := cf1 W5 hf.at_.cls
          refine wpOpIn_step rfl (fun K' hK' => ?_)
          go_simp
          exact hK' _ _ (hK _ _ rfl (Below.refl _ _) (fun h => by cases h))
        case h33 =>
          intro _ o hi b5 W5 hf K hK
          cases hi
          have k54 : b5.tmps[54]?.getD undef = .bool false := (Array.getD_eq_getD_getElem? ..).symm.trans (hf.at_.vals 31 _ 54 ⟨by decide, ⟨31, .guard⟩, by simp, by kernel_rfl, rfl⟩ rfl rfl)
          have g54 := some_bool k54
          have k4 : b5.tmps[4]?.getD undef = .pointer (some ⟨w.heap.size + 1, 0, none⟩) := (Array.getD_eq_getD_getElem? ..).symm.trans ((hf.at_.keep 4 (by kernel_rfl)).trans (by kernel_rfl))
          obtain ⟨⟨⟨q1, q2⟩, ⟨q3, q4⟩, q5, q6⟩, ⟨q7, q8⟩, q9, q10⟩ := cf1 W5 hf.at_.cls
          refine wpOpIn_step rfl (fun K' hK' => ?_)
          go_simp
          exact hK' _ _ (hK _ _ rfl (Below.refl _ _) (fun h => by cases h))
        case h34 =>
          intro _ o hi b5 W5 hf K hK
          cases hi
          have k54 : b5.tmps[54]?.getD undef = .bool false := (Array.getD_eq_getD_getElem? ..).symm.trans (hf.at_.vals 31 _ 54 ⟨by decide, ⟨31, .guard⟩, by simp, by kernel_rfl, rfl⟩ rfl rfl)
          have g54 := some_bool k54
          have k5 : b5.tmps[5]?.getD undef = .pointer (some ⟨w.heap.size + 1 + 1, 0, none⟩) := (Array.getD_eq_getD_getElem? ..).symm.trans ((hf.at_.keep 5 (by kernel_rfl)).trans (by kernel_rfl))
          obtain ⟨⟨⟨q1, q2⟩, ⟨q3, q4⟩, q5, q6⟩, ⟨q7, q8⟩, q9, q10⟩ := cf1 W5 hf.at_.cls
          refine wpOpIn_step rfl (fun K' hK' => ?_)
          go_simp
          exact hK' _ _ (hK _ _ rfl (Below.refl _ _) (fun h => by cases h))
        case h35 =>
          intro _ o hi b5 W5 hf K hK
          cases hi
          have k54 : b5.tmps[54]?.getD undef = .bool false := (Array.getD_eq_getD_getElem? ..).symm.trans (hf.at_.vals 31 _ 54 ⟨by decide, ⟨31, .guard⟩, by simp, by kernel_rfl, rfl⟩ rfl rfl)
          have g54 := some_bool k54
          have k55 : b5.tmps[55]?.getD undef = .agg #[.bool s, .slice A n c] := (Array.getD_eq_getD_getElem? ..).symm.trans (hf.at_.vals 32 _ 55 ⟨by decide, ⟨32, .data⟩, by simp, by kernel_rfl, rfl⟩ rfl rfl)
          have k56 : b5.tmps[56]?.getD undef = .agg #[.bool s', .slice A' n' c'] := (Array.getD_eq_getD_getElem? ..).symm.trans (hf.at_.vals 33 _ 56 ⟨by decide, ⟨33, .data⟩, by simp, by kernel_rfl, rfl⟩ rfl rfl)
          have k57 : b5.tmps[57]?.getD undef = .agg #[.bool s'', .slice A'' n'' c''] := (Array.getD_eq_getD_getElem? ..).symm.trans (hf.at_.vals 34 _ 57 ⟨by decide, ⟨34, .data⟩, by simp, by kernel_rfl, rfl⟩ rfl rfl)
          have ct := ISV.three (UV.mono (ua W5 (up1 W5 hf.at_.cls)) (m' := 60) (by decide)) (UV.mono (ub W5 (up1 W5 hf.at_.cls)) (m' := 60) (by decide)) (UV.mono (uc W5 (up1 W5 hf.at_.cls)) (m' := 60) (by decide)) 25
          refine wpOpIn_step rfl (fun K' hK' => ?_)
          go_simp
          exact hK' _ _ (hK _ _ ct ((Below.refl _ W5).alloc (Nat.le_refl _) _) (fun h => by cases h))
        case h36 =>
          intro _ o hi b5 W5 hf K hK
          cases hi
          have k54 : b5.tmps[54]?.getD undef = .bool false := (Array.getD_eq_getD_getElem? ..).symm.trans (hf.at_.vals 31 _ 54 ⟨by decide, ⟨31, .chain⟩, by simp, by kernel_rfl, rfl⟩ rfl rfl)
          have g54 := some_bool k54
          have v58 := hf.at_.vals 35 _ 58 ⟨by decide, ⟨35, .data⟩, by simp, by kernel_rfl, rfl⟩ rfl rfl; rw [Array.getD_eq_getD_getElem?] at v58
          have ct := add_w (k := ((va + vb) + vc)) v58 (by decide) (by simp) (by simp [Int.add_assoc])
          refine wpOpIn_step rfl (fun K' hK' => ?_)
          go_simp
          refine CallsIn.mono (callsIn_wide.2 ct) ?_
          rintro e W' ⟨v, rfl, hv, hb⟩
          exact hK' _ _ (hK _ _ hv hb (fun h => by cases h))
        case h37 =>
          intro _ o hi b5 W5 hf K hK
          cases hi
          have k54 : b5.tmps[54]?.getD undef = .bool false := (Array.getD_eq_getD_getElem? ..).symm.trans (hf.at_.vals 31 _ 54 ⟨by decide, ⟨31, .guard⟩, by simp, by kernel_rfl, rfl⟩ rfl rfl)
          have g54 := some_bool k54
          have k7 : b5.tmps[7]?.getD undef = .pointer (some ⟨B7, 0, none⟩) := (Array.getD_eq_getD_getElem? ..).symm.trans ((hf.at_.keep 7 (by kernel_rfl)).trans (by kernel_rfl))
          obtain ⟨⟨⟨q1, q2⟩, ⟨q3, q4⟩, q5, q6⟩, ⟨q7, q8⟩, q9, q10⟩ := cf1 W5 hf.at_.cls
          refine wpOpIn_step rfl (fun K' hK' => ?_)
          go_simp
          exact hK' _ _ (hK _ _ rfl (Below.refl _ _) (fun h => by cases h))
        case h38 =>
          intro _ o hi b5 W5 hf K hK
          cases hi
          have k54 : b5.tmps[54]?.getD undef = .bool false := (Array.getD_eq_getD_getElem? ..).symm.trans (hf.at_.vals 31 _ 54 ⟨by decide, ⟨31, .guard⟩, by simp, by kernel_rfl, rfl⟩ rfl rfl)
          have g54 := some_bool k54
          have k5 : b5.tmps[5]?.getD undef = .pointer (some ⟨w.heap.size + 1 + 1, 0, none⟩) := (Array.getD_eq_getD_getElem? ..).symm.trans ((hf.at_.keep 5 (by kernel_rfl)).trans (by kernel_rfl))
          obtain ⟨⟨⟨q1, q2⟩, ⟨q3, q4⟩, q5, q6⟩, ⟨q7, q8⟩, q9, q10⟩ := cf1 W5 hf.at_.cls
          refine wpOpIn_step rfl (fun K' hK' => ?_)
          go_simp
          exact hK' _ _ (hK _ _ rfl (Below.refl _ _) (fun h => by cases h))
        case h39 =>
          intro _ o hi b5 W5 hf K hK
          cases hi
          have k54 : b5.tmps[54]?.getD undef = .bool false := (Array.getD_eq_getD_getElem? ..).symm.trans (hf.at_.vals 31 _ 54 ⟨by decide, ⟨31, .guard⟩, by simp, by kernel_rfl, rfl⟩ rfl rfl)
          have g54 := some_bool k54
          have k60 : b5.tmps[60]?.getD undef = .agg #[.bool (decide ((va + vb) < 0)), .slice As ns cs] := (Array.getD_eq_getD_getElem? ..).symm.trans (hf.at_.vals 37 _ 60 ⟨by decide, ⟨37, .data⟩, by simp, by kernel_rfl, rfl⟩ rfl rfl)
          have k61 : b5.tmps[61]?.getD undef = .agg #[.bool s'', .slice A'' n'' c''] := (Array.getD_eq_getD_getElem? ..).symm.trans (hf.at_.vals 38 _ 61 ⟨by decide, ⟨38, .data⟩, by simp, by kernel_rfl, rfl⟩ rfl rfl)
          have ct := ISV.two (NV.uv' (nvs W5 (dn1 W5 hf.at_.cls)) (Bd.add ba bb)) (UV.mono (uc W5 (up1 W5 hf.at_.cls)) (m' := 61) (by decide)) 25
          refine wpOpIn_step rfl (fun K' hK' => ?_)
          go_simp
          exact hK' _ _ (hK _ _ ct ((Below.refl _ W5).alloc (Nat.le_refl _) _) (fun h => by cases h))
        case h40 =>
          intro _ o hi b5 W5 hf K hK
          cases hi
          have k54 : b5.tmps[54]?.getD undef = .bool false := (Array.getD_eq_getD_getElem? ..).symm.trans (hf.at_.vals 31 _ 54 ⟨by decide, ⟨31, .guard⟩, by simp, by kernel_rfl, rfl⟩ rfl rfl)
          have g54 := some_bool k54
          have v62 := hf.at_.vals 39 _ 62 ⟨by decide, ⟨39, .data⟩, by simp, by kernel_rfl, rfl⟩ rfl rfl; rw [Array.getD_eq_getD_getElem?] at v62
          have ct := add_w (k := ((va + vb) + vc)) v62 (by decide) (by simp) (by simp)
          refine wpOpIn_step rfl (fun K' hK' => ?_)
          go_simp
          refine CallsIn.mono (callsIn_wide.2 ct) ?_
          rintro e W' ⟨v, rfl, hv, hb⟩
          exact hK' _ _ (hK _ _ hv hb (fun h => by cases h))
        case h41 =>
          intro _ o hi b5 W5 hf K hK
          cases hi
          have k54 : b5.tmps[54]?.getD undef = .bool false := (Array.getD_eq_getD_getElem? ..).symm.trans (hf.at_.vals 31 _ 54 ⟨by decide, ⟨31, .guard⟩, by simp, by kernel_rfl, rfl⟩ rfl rfl)
          have g54 := some_bool k54
          have v59 := hf.at_.vals 36 _ 59 ⟨by decide, ⟨36, .data⟩, by simp, by kernel_rfl, rfl⟩ rfl rfl; rw [Array.getD_eq_getD_getElem?] at v59
          have v63 := hf.at_.vals 40 _ 63 ⟨by decide, ⟨40, .data⟩, by simp, by kernel_rfl, rfl⟩ rfl rfl; rw [Array.getD_eq_getD_getElem?] at v63
          have ct := lawsame_t v59 v63 (show ((va + vb) + vc) = ((va + vb) + vc) from by grind)
          refine wpOpIn_step rfl (fun K' hK' => ?_)
          go_simp
          refine CallsIn.mono (callsIn_wide.2 ct) ?_
          rintro e W' ⟨rfl, hb⟩
          exact hK' _ _ (hK _ _ rfl hb (fun h => by cases h))
        case h42 =>
          intro _ o hi b5 W5 hf K hK
          cases hi
          have k54 : b5.tmps[54]?.getD undef = .bool false := (Array.getD_eq_getD_getElem? ..).symm.trans (hf.at_.vals 31 _ 54 ⟨by decide, ⟨31, .guard⟩, by simp, by kernel_rfl, rfl⟩ rfl rfl)
          have g54 := some_bool k54
          have k64 : b5.tmps[64]?.getD undef = .bool true := (Array.getD_eq_getD_getElem? ..).symm.trans (hf.at_.vals 41 _ 64 ⟨by decide, ⟨41, .data⟩, by simp, by kernel_rfl, rfl⟩ rfl rfl)
          refine wpOpIn_step rfl (fun K' hK' => ?_)
          go_simp
          exact hK' _ _ (hK _ _ rfl (Below.refl _ _) (fun h => by cases h))
        case h43 =>
          intro _ o hi b5 W5 hf K hK
          cases hi
          have k54 : b5.tmps[54]?.getD undef = .bool false := (Array.getD_eq_getD_getElem? ..).symm.trans (hf.at_.vals 31 _ 54 ⟨by decide, ⟨31, .data⟩, by simp, by kernel_rfl, rfl⟩ rfl rfl)
          have k65 : b5.tmps[65]?.getD undef = .bool false := (Array.getD_eq_getD_getElem? ..).symm.trans (hf.at_.vals 42 _ 65 ⟨by decide, ⟨42, .data⟩, by simp, by kernel_rfl, rfl⟩ rfl rfl)
          refine wpOpIn_step rfl (fun K' hK' => ?_)
          go_simp
          exact hK' _ _ (hK _ _ rfl (Below.refl _ _) (fun h => by cases h))
      case fin =>
        intro b5 W8 hf
        have e66 : b5.tmps.getD 66 undef = .bool false := hf.at_.vals 43 _ 66 ⟨by decide, by decide⟩ rfl rfl
        have hE := frame_eq [23, 24, 25, 26, 27, 28, 29, 30, 31, 32, 33, 34, 35, 36, 37, 38, 39, 40, 41, 42, 43, 44, 45, 46, 47, 48, 49, 50, 51, 52, 53, 54, 55, 56, 57, 58, 59, 60, 61, 62, 63, 64, 65, 66] hf.at_.size (fun t ht5 => hf.at_.keep t (not_dst (by rw [show dstList _ _ = [23, 24, 25, 26, 27, 28, 29, 30, 31, 32, 33, 34, 35, 36, 37, 38, 39, 40, 41, 42, 43, 44, 45, 46, 47, 48, 49, 50, 51, 52, 53, 54, 55, 56, 57, 58, 59, 60, 61, 62, 63, 64, 65, 66] from by kernel_rfl]; exact ht5)))
        have hcl5 := hf.at_.cls
        obtain ⟨tm, df⟩ := b5
        obtain rfl : df = _ := hf.at_.defers
        clear hf
        simp only [List.foldl_cons, List.foldl_nil] at hE
        rw [show tm.getD 66 undef = _ from e66] at hE; clear e66
        obtain ⟨u23, hu23⟩ : ∃ x, tm.getD 23 undef = x := ⟨_, rfl⟩; rw [hu23] at hE; clear hu23
        obtain ⟨u24, hu24⟩ : ∃ x, tm.getD 24 undef = x := ⟨_, rfl⟩; rw [hu24] at hE; clear hu24
        obtain ⟨u25, hu25⟩ : ∃ x, tm.getD 25 undef = x := ⟨_, rfl⟩; rw [hu25] at hE; clear hu25
        obtain ⟨u26, hu26⟩ : ∃ x, tm.getD 26 undef = x := ⟨_, rfl⟩; rw [hu26] at hE; clear hu26
        obtain ⟨u27, hu27⟩ : ∃ x, tm.getD 27 undef = x := ⟨_, rfl⟩; rw [hu27] at hE; clear hu27
        obtain ⟨u28, hu28⟩ : ∃ x, tm.getD 28 undef = x := ⟨_, rfl⟩; rw [hu28] at hE; clear hu28
        obtain ⟨u29, hu29⟩ : ∃ x, tm.getD 29 undef = x := ⟨_, rfl⟩; rw [hu29] at hE; clear hu29
        obtain ⟨u30, hu30⟩ : ∃ x, tm.getD 30 undef = x := ⟨_, rfl⟩; rw [hu30] at hE; clear hu30
        obtain ⟨u31, hu31⟩ : ∃ x, tm.getD 31 undef = x := ⟨_, rfl⟩; rw [hu31] at hE; clear hu31
        obtain ⟨u32, hu32⟩ : ∃ x, tm.getD 32 undef = x := ⟨_, rfl⟩; rw [hu32] at hE; clear hu32
        obtain ⟨u33, hu33⟩ : ∃ x, tm.getD 33 undef = x := ⟨_, rfl⟩; rw [hu33] at hE; clear hu33
        obtain ⟨u34, hu34⟩ : ∃ x, tm.getD 34 undef = x := ⟨_, rfl⟩; rw [hu34] at hE; clear hu34
        obtain ⟨u35, hu35⟩ : ∃ x, tm.getD 35 undef = x := ⟨_, rfl⟩; rw [hu35] at hE; clear hu35
        obtain ⟨u36, hu36⟩ : ∃ x, tm.getD 36 undef = x := ⟨_, rfl⟩; rw [hu36] at hE; clear hu36
        obtain ⟨u37, hu37⟩ : ∃ x, tm.getD 37 undef = x := ⟨_, rfl⟩; rw [hu37] at hE; clear hu37
        obtain ⟨u38, hu38⟩ : ∃ x, tm.getD 38 undef = x := ⟨_, rfl⟩; rw [hu38] at hE; clear hu38
        obtain ⟨u39, hu39⟩ : ∃ x, tm.getD 39 undef = x := ⟨_, rfl⟩; rw [hu39] at hE; clear hu39
        obtain ⟨u40, hu40⟩ : ∃ x, tm.getD 40 undef = x := ⟨_, rfl⟩; rw [hu40] at hE; clear hu40
        obtain ⟨u41, hu41⟩ : ∃ x, tm.getD 41 undef = x := ⟨_, rfl⟩; rw [hu41] at hE; clear hu41
        obtain ⟨u42, hu42⟩ : ∃ x, tm.getD 42 undef = x := ⟨_, rfl⟩; rw [hu42] at hE; clear hu42
        obtain ⟨u43, hu43⟩ : ∃ x, tm.getD 43 undef = x := ⟨_, rfl⟩; rw [hu43] at hE; clear hu43
        obtain ⟨u44, hu44⟩ : ∃ x, tm.getD 44 undef = x := ⟨_, rfl⟩; rw [hu44] at hE; clear hu44
        obtain ⟨u45, hu45⟩ : ∃ x, tm.getD 45 undef = x := ⟨_, rfl⟩; rw [hu45] at hE; clear hu45
        obtain ⟨u46, hu46⟩ : ∃ x, tm.getD 46 undef = x := ⟨_, rfl⟩; rw [hu46] at hE; clear hu46
        obtain ⟨u47, hu47⟩ : ∃ x, tm.getD 47 undef = x := ⟨_, rfl⟩; rw [hu47] at hE; clear hu47
        obtain ⟨u48, hu48⟩ : ∃ x, tm.getD 48 undef = x := ⟨_, rfl⟩; rw [hu48] at hE; clear hu48
        obtain ⟨u49, hu49⟩ : ∃ x, tm.getD 49 undef = x := ⟨_, rfl⟩; rw [hu49] at hE; clear hu49
        obtain ⟨u50, hu50⟩ : ∃ x, tm.getD 50 undef = x := ⟨_, rfl⟩; rw [hu50] at hE; clear hu50
        obtain ⟨u51, hu51⟩ : ∃ x, tm.getD 51 undef = x := ⟨_, rfl⟩; rw [hu51] at hE; clear hu51
        obtain ⟨u52, hu52⟩ : ∃ x, tm.getD 52 undef = x := ⟨_, rfl⟩; rw [hu52] at hE; clear hu52
        obtain ⟨u53, hu53⟩ : ∃ x, tm.getD 53 undef = x := ⟨_, rfl⟩; rw [hu53] at hE; clear hu53
        obtain ⟨u54, hu54⟩ : ∃ x, tm.getD 54 undef = x := ⟨_, rfl⟩; rw [hu54] at hE; clear hu54
        obtain ⟨u55, hu55⟩ : ∃ x, tm.getD 55 undef = x := ⟨_, rfl⟩; rw [hu55] at hE; clear hu55
        obtain ⟨u56, hu56⟩ : ∃ x, tm.getD 56 undef = x := ⟨_, rfl⟩; rw [hu56] at hE; clear hu56
        obtain ⟨u57, hu57⟩ : ∃ x, tm.getD 57 undef = x := ⟨_, rfl⟩; rw [hu57] at hE; clear hu57
        obtain ⟨u58, hu58⟩ : ∃ x, tm.getD 58 undef = x := ⟨_, rfl⟩; rw [hu58] at hE; clear hu58
        obtain ⟨u59, hu59⟩ : ∃ x, tm.getD 59 undef = x := ⟨_, rfl⟩; rw [hu59] at hE; clear hu59
        obtain ⟨u60, hu60⟩ : ∃ x, tm.getD 60 undef = x := ⟨_, rfl⟩; rw [hu60] at hE; clear hu60
        obtain ⟨u61, hu61⟩ : ∃ x, tm.getD 61 undef = x := ⟨_, rfl⟩; rw [hu61] at hE; clear hu61
        obtain ⟨u62, hu62⟩ : ∃ x, tm.getD 62 undef = x := ⟨_, rfl⟩; rw [hu62] at hE; clear hu62
        obtain ⟨u63, hu63⟩ : ∃ x, tm.getD 63 undef = x := ⟨_, rfl⟩; rw [hu63] at hE; clear hu63
        obtain ⟨u64, hu64⟩ : ∃ x, tm.getD 64 undef = x := ⟨_, rfl⟩; rw [hu64] at hE; clear hu64
        obtain ⟨u65, hu65⟩ : ∃ x, tm.getD 65 undef = x := ⟨_, rfl⟩; rw [hu65] at hE; clear hu65
        rewrite [hE]
        clear hE
        refine doneP (by kernel_rfl) ?_
        have cf2 := fun (W : World) (hb : Below W8.heap.size W8 W) => cf1 W (hcl5.trans (hb.mono hcl5.size))
        have up2 := fun (W : World) (hb : Below W8.heap.size W8 W) => up1 W (hcl5.trans (hb.mono hcl5.size))
        have dn2 := fun (W : World) (hb : Below W8.heap.size W8 W) => dn1 W (hcl5.trans (hb.mono hcl5.size))
        clear hcl5
        go_simp
        go_wp2
        refine (wpIn_wide (n := 0)).1 ?_
        refine wpIn_region_C 100000 (fun _ => True) hmix ?_
        refine flowT_at (k := 47) (fun _ => false) (fun iz vz Wz => match iz with
    | 0 => vz = .agg #[.bool (decide ((va * vb) < 0)), .slice Ap np cp]
    | 1 => vz = .agg #[.bool s'', .slice A'' n'' c'']
    | 2 => ISV Wz 120 vz [(va * vb), vc]
    | 3 => NV Wz vz ((va * vb) * vc)
    | 4 => vz = .agg #[.bool s, .slice A n c]
    | 5 => vz = .agg #[.bool s', .slice A' n' c']
    | 6 => vz = .agg #[.bool s'', .slice A'' n'' c'']
    | 7 => ISV Wz 60 vz [vb, vc]
    | 8 => NV Wz vz (vb * vc)
    | 9 => ISV Wz 120 vz [va, (vb * vc)]
    | 10 => NV Wz vz (va * (vb * vc))
    | 11 => vz = .bool true
    | 12 => vz = .bool false
    | 13 => vz = .bool false
    | 14 => vz = .agg #[.bool s, .slice A n c]
    | 15 => vz = .agg #[.bool s', .slice A' n' c']
    | 16 => vz = .agg #[.bool s'', .slice A'' n'' c'']
    | 17 => ISV Wz 60 vz [va, vb, vc]
    | 18 => NV Wz vz ((va * vb) * vc)
    | 19 => vz = .agg #[.bool (decide ((va * vb) < 0)), .slice Ap np cp]
    | 20 => vz = .agg #[.bool s'', .slice A'' n'' c'']
    | 21 => ISV Wz 120 vz [(va * vb), vc]
    | 22 => NV Wz vz ((va * vb) * vc)
    | 23 => vz = .bool true
    | 24 => vz = .bool false
    | 25 => vz = .bool false
    | 26 => vz = .bool false
    | 27 => vz = .agg #[.bool s, .slice A n c]
    | 28 => vz = .agg #[.bool s', .slice A' n' c']
    | 29 => ISV Wz 60 vz [va, vb]
    | 30 => NV Wz vz (va + vb)
    | 31 => vz = .agg #[.bool s'', .slice A'' n'' c'']
    | 32 => ISV Wz 61 vz [(va + vb), vc]
    | 33 => NV Wz vz ((va + vb) * vc)
    | 34 => vz = .agg #[.bool s, .slice A n c]
    | 35 => vz = .agg #[.bool s'', .slice A'' n'' c'']
    | 36 => ISV Wz 60 vz [va, vc]
    | 37 => NV Wz vz (va * vc)
    | 38 => vz = .agg #[.bool s', .slice A' n' c']
    | 39 => vz = .agg #[.bool s'', .slice A'' n'' c'']
    | 40 => ISV Wz 60 vz [vb, vc]
    | 41 => NV Wz vz (vb * vc)
    | 42 => ISV Wz 120 vz [(va * vc), (vb * vc)]
    | 43 => NV Wz vz ((va * vc) + (vb * vc))
    | 44 => vz = .bool true
    | 45 => vz = .bool false
    | 46 => vz = .bool false
    | _ => True) (fun W => Below W8.heap.size W8 W) (by kernel_rfl) (by kernel_rfl) (by kernel_rfl) (by kernel_rfl) (by kernel_rfl) (by kernel_rfl) (by kernel_rfl) (by kernel_rfl) (by kernel_rfl) (fun _ _ h hb => h.trans (hb.mono h.size)) ?stab ((Below.refl _ W8).drew) ?spec ?fin
        case stab =>
          intro iz vz Wz Wy h hb
          split at h <;> first | exact h | exact NV.below h hb | exact ISV.below h hb | trivial
        case spec =>
          refine all_lt_succ ?_ ?h46
          refine all_lt_succ ?_ ?h45
          refine all_lt_succ ?_ ?h44
          refine all_lt_succ ?_ ?h43
          refine all_lt_succ ?_ ?h42
          refine all_lt_succ ?_ ?h41
          refine all_lt_succ ?_ ?h40
          refine all_lt_succ ?_ ?h39
          refine all_lt_succ ?_ ?h38
          refine all_lt_succ ?_ ?h37
          refine all_lt_succ ?_ ?h36
          refine all_lt_succ ?_ ?h35
          refine all_lt_succ ?_ ?h34
          refine all_lt_succ ?_ ?h33
          refine all_lt_succ ?_ ?h32
          refine all_lt_succ ?_ ?h31
          refine all_lt_succ ?_ ?h30
          refine all_lt_succ ?_ ?h29
          refine all_lt_succ ?_ ?h28
          refine all_lt_succ ?_ ?h27
          refine all_lt_succ ?_ ?h26
          refine all_lt_succ ?_ ?h25
          refine all_lt_succ ?_ ?h24
          refine all_lt_succ ?_ ?h23
          refine all_lt_succ ?_ ?h22
          refine all_lt_succ ?_ ?h21
          refine all_lt_succ ?_ ?h20
          refine all_lt_succ ?_ ?h19
          refine all_lt_succ ?_ ?h18
          refine all_lt_succ ?_ ?h17
          refine all_lt_succ ?_ ?h16
          refine all_lt_succ ?_ ?h15
          refine all_lt_succ ?_ ?h14
          refine all_lt_succ ?_ ?h13
          refine all_lt_succ ?_ ?h12
          refine all_lt_succ ?_ ?h11
          refine all_lt_succ ?_ ?h10
          refine all_lt_succ ?_ ?h9
          refine all_lt_succ ?_ ?h8
          refine all_lt_succ ?_ ?h7
          refine all_lt_succ ?_ ?h6
          refine all_lt_succ ?_ ?h5
          refine all_lt_succ ?_ ?h4
          refine all_lt_succ ?_ ?h3
          refine all_lt_succ ?_ ?h2
          refine all_lt_succ ?_ ?h1
          refine all_lt_succ ?_ ?h0
          exact fun i h _ => absurd h (Nat.not_lt_zero i)
          case h0 =>
            intro _ o hi b5 W5 hf K hK
            cases hi
            have k8 : b5.tmps[8]?.getD undef = .pointer (some ⟨B8, 0, none⟩) := (Array.getD_eq_getD_getElem? ..).symm.trans ((hf.at_.keep 8 (by kernel_rfl)).trans (by kernel_rfl))
            obtain ⟨⟨⟨q1, q2⟩, ⟨q3, q4⟩, q5, q6⟩, ⟨q7, q8⟩, q9, q10⟩ := cf2 W5 hf.at_.cls
            refine wpOpIn_step rfl (fun K' hK' => ?_)
            go_simp
            exact hK' _ _ (hK _ _ rfl (Below.refl _ _) (fun h => by cases h))
          case h1 =>
            intro _ o hi b5 W5 hf K hK
            cases hi
            have k5 : b5.tmps[5]?.getD undef = .pointer (some ⟨w.heap.size + 1 + 1, 0, none⟩) := (Array.getD_eq_getD_getElem? ..).symm.trans ((hf.at_.keep 5 (by kernel_rfl)).trans (by kernel_rfl))
            obtain ⟨⟨⟨q1, q2⟩, ⟨q3, q4⟩, q5, q6⟩, ⟨q7, q8⟩, q9, q10⟩ := cf2 W5 hf.at_.cls
            refine wpOpIn_step rfl (fun K' hK' => ?_)
            go_simp
            exact hK' _ _ (hK _ _ rfl (Below.refl _ _) (fun h => by cases h))
          case h2 =>
            intro _ o hi b5 W5 hf K hK
            cases hi
            have k67 : b5.tmps[67]?.getD undef = .agg #[.bool (decide ((va * vb) < 0)), .slice Ap np cp] := (Array.getD_eq_getD_getElem? ..).symm.trans (hf.at_.vals 0 _ 67 ⟨by decide, ⟨0, .data⟩, by simp, by kernel_rfl, rfl⟩ rfl rfl)
            have k68 : b5.tmps[68]?.getD undef = .agg #[.bool s'', .slice A'' n'' c''] := (Array.getD_eq_getD_getElem? ..).symm.trans (hf.at_.vals 1 _ 68 ⟨by decide, ⟨1, .data⟩, by simp, by kernel_rfl, rfl⟩ rfl rfl)
            have ct := ISV.two (NV.uv' (nvp W5 (dn2 W5 hf.at_.cls)) (Bd.mul ba bb)) (UV.mono (uc W5 (up2 W5 hf.at_.cls)) (m' := 120) (by decide)) 25
            refine wpOpIn_step rfl (fun K' hK' => ?_)
            go_simp
            exact hK' _ _ (hK _ _ ct ((Below.refl _ W5).alloc (Nat.le_refl _) _) (fun h => by cases h))
          case h3 =>
            intro _ o hi b5 W5 hf K hK
            cases hi
            have v69 := hf.at_.vals 2 _ 69 ⟨by decide, ⟨2, .data⟩, by simp, by kernel_rfl, rfl⟩ rfl rfl; rw [Array.getD_eq_getD_getElem?] at v69
            have ct := mul_w (k := ((va * vb) * vc)) v69 (by simp) (by simp) (by simp)
            refine wpOpIn_step rfl (fun K' hK' => ?_)
            go_simp
            refine CallsIn.mono (callsIn_wide.2 ct) ?_
            rintro e W' ⟨v, rfl, hv, hb⟩
            exact hK' _ _ (hK _ _ hv hb (fun h => by cases h))
          case h4 =>
            intro _ o hi b5 W5 hf K hK
            cases hi
            have k3 : b5.tmps[3]?.getD undef = .pointer (some ⟨w.heap.size, 0, none⟩) := (Array.getD_eq_getD_getElem? ..).symm.trans ((hf.at_.keep 3 (by kernel_rfl)).trans (by kernel_rfl))
            obtain ⟨⟨⟨q1, q2⟩, ⟨q3, q4⟩, q5, q6⟩, ⟨q7, q8⟩, q9, q10⟩ := cf2 W5 hf.at_.cls
            refine wpOpIn_step rfl (fun K' hK' => ?_)
            go_simp
            exact hK' _ _ (hK _ _ rfl (Below.refl _ _) (fun h => by cases h))
          case h5 =>
            intro _ o hi b5 W5 hf K hK
            cases hi
            have k4 : b5.tmps[4]?.getD undef = .pointer (some ⟨w.heap.size + 1, 0, none⟩) := (Array.getD_eq_getD_getElem? ..).symm.trans ((hf.at_.keep 4 (by kernel_rfl)).trans (by kernel_rfl))
            obtain ⟨⟨⟨q1, q2⟩, ⟨q3, q4⟩, q5, q6⟩, ⟨q7, q8⟩, q9, q10⟩ := cf2 W5 hf.at_.cls
            refine wpOpIn_step rfl (fun K' hK' => ?_)
            go_simp
            exact hK' _ _ (hK _ _ rfl (Below.refl _ _) (fun h => by cases h))
          case h6 =>
            intro _ o hi b5 W5 hf K hK
            cases hi
            have k5 : b5.tmps[5]?.getD undef = .pointer (some ⟨w.heap.size + 1 + 1, 0, none⟩) := (Array.getD_eq_getD_getElem? ..).symm.trans ((hf.at_.keep 5 (by kernel_rfl)).trans (by kernel_rfl))
            obtain ⟨⟨⟨q1, q2⟩, ⟨q3, q4⟩, q5, q6⟩, ⟨q7, q8⟩, q9, q10⟩ := cf2 W5 hf.at_.cls
            refine wpOpIn_step rfl (fun K' hK' => ?_)
            go_simp
            exact hK' _ _ (hK _ _ rfl (Below.refl _ _) (fun h => by cases h))
          case h7 =>
            intro _ o hi b5 W5 hf K hK
            cases hi
            have k72 : b5.tmps[72]?.getD undef = .agg #[.bool s', .slice A' n' c'] := (Array.getD_eq_getD_getElem? ..).symm.trans (hf.at_.vals 5 _ 72 ⟨by decide, ⟨5, .data⟩, by simp, by kernel_rfl, rfl⟩ rfl rfl)
            have k73 : b5.tmps[73]?.getD undef = .agg #[.bool s'', .slice A'' n'' c''] := (Array.getD_eq_getD_getElem? ..).symm.trans (hf.at_.vals 6 _ 73 ⟨by decide, ⟨6, .data⟩, by simp, by kernel_rfl, rfl⟩ rfl rfl)
            have ct := ISV.two (UV.mono (ub W5 (up2 W5 hf.at_.cls)) (m' := 60) (by decide)) (UV.mono (uc W5 (up2 W5 hf.at_.cls)) (m' := 60) (by decide)) 25
            refine wpOpIn_step rfl (fun K' hK' => ?_)
            go_simp
            exact hK' _ _ (hK _ _ ct ((Below.refl _ W5).alloc (Nat.le_refl _) _) (fun h => by cases h))
          case h8 =>
            intro _ o hi b5 W5 hf K hK
            cases hi
            have v74 := hf.at_.vals 7 _ 74 ⟨by decide, ⟨7, .data⟩, by simp, by kernel_rfl, rfl⟩ rfl rfl; rw [Array.getD_eq_getD_getElem?] at v74
            have ct := mul_w (k := (vb * vc)) v74 (by simp) (by simp) (by simp)
            refine wpOpIn_step rfl (fun K' hK' => ?_)
            go_simp
            refine CallsIn.mono (callsIn_wide.2 ct) ?_
            rintro e W' ⟨v, rfl, hv, hb⟩
            exact hK' _ _ (hK _ _ hv hb (fun h => by cases h))
          case h9 =>
            intro _ o hi b5 W5 hf K hK
            cases hi
            have k71 : b5.tmps[71]?.getD undef = .agg #[.bool s, .slice A n c] := (Array.getD_eq_getD_getElem? ..).symm.trans (hf.at_.vals 4 _ 71 ⟨by decide, ⟨4, .data⟩, by simp, by kernel_rfl, rfl⟩ rfl rfl)
            have v75 := hf.at_.vals 8 _ 75 ⟨by decide, ⟨8, .data⟩, by simp, by kernel_rfl, rfl⟩ rfl rfl; rw [Array.getD_eq_getD_getElem?] at v75
            obtain ⟨s75, A75, n75, c75, k75, w75⟩ := NV.open v75 (Bd.mul bb bc)
            have ct := ISV.two (UV.mono (ua W5 (up2 W5 hf.at_.cls)) (m' := 120) (by decide)) w75 25
            refine wpOpIn_step rfl (fun K' hK' => ?_)
            go_simp
            exact hK' _ _ (hK _ _ ct ((Below.refl _ W5).alloc (Nat.le_refl _) _) (fun h => by cases h))
          case h10 =>
            intro _ o hi b5 W5 hf K hK
            cases hi
            have v76 := hf.at_.vals 9 _ 76 ⟨by decide, ⟨9, .data⟩, by simp, by kernel_rfl, rfl⟩ rfl rfl; rw [Array.getD_eq_getD_getElem?] at v76
            have ct := mul_w (k := (va * (vb * vc))) v76 (by simp) (by simp) (by simp)
            refine wpOpIn_step rfl (fun K' hK' => ?_)
            go_simp
            refine CallsIn.mono (callsIn_wide.2 ct) ?_
            rintro e W' ⟨v, rfl, hv, hb⟩
            exact hK' _ _ (hK _ _ hv hb (fun h => by cases h))
          case h11 =>
            intro _ o hi b5 W5 hf K hK
            cases hi
            have v70 := hf.at_.vals 3 _ 70 ⟨by decide, ⟨3, .data⟩, by simp, by kernel_rfl, rfl⟩ rfl rfl; rw [Array.getD_eq_getD_getElem?] at v70
            have v77 := hf.at_.vals 10 _ 77 ⟨by decide, ⟨10, .data⟩, by simp, by kernel_rfl, rfl⟩ rfl rfl; rw [Array.getD_eq_getD_getElem?] at v77
            have ct := lawsame_t v70 v77 (show ((va * vb) * vc) = (va * (vb * vc)) from by grind)
            refine wpOpIn_step rfl (fun K' hK' => ?_)
            go_simp
            refine CallsIn.mono (callsIn_wide.2 ct) ?_
            rintro e W' ⟨rfl, hb⟩
            exact hK' _ _ (hK _ _ rfl hb (fun h => by cases h))
          case h12 =>
            intro _ o hi b5 W5 hf K hK
            cases hi
            have k78 : b5.tmps[78]?.getD undef = .bool true := (Array.getD_eq_getD_getElem? ..).symm.trans (hf.at_.vals 11 _ 78 ⟨by decide, ⟨11, .data⟩, by simp, by kernel_rfl, rfl⟩ rfl rfl)
            refine wpOpIn_step rfl (fun K' hK' => ?_)
            go_simp
            exact hK' _ _ (hK _ _ rfl (Below.refl _ _) (fun h => by cases h))
          case h13 =>
            intro _ o hi b5 W5 hf K hK
            cases hi
            have k79 : b5.tmps[79]?.getD undef = .bool false := (Array.getD_eq_getD_getElem? ..).symm.trans (hf.at_.vals 12 _ 79 ⟨by decide, ⟨12, .data⟩, by simp, by kernel_rfl, rfl⟩ rfl rfl)
            refine wpOpIn_step rfl (fun K' hK' => ?_)
            go_simp
            exact hK' _ _ (hK _ _ rfl (Below.refl _ _) (fun h => by cases h))
          case h14 =>
            intro _ o hi b5 W5 hf K hK
            cases hi
            have k80 : b5.tmps[80]?.getD undef = .bool false := (Array.getD_eq_getD_getElem? ..).symm.trans (hf.at_.vals 13 _ 80 ⟨by decide, ⟨13, .guard⟩, by simp, by kernel_rfl, rfl⟩ rfl rfl)
            have g80 := some_bool k80
            have k3 : b5.tmps[3]?.getD undef = .pointer (some ⟨w.heap.size, 0, none⟩) := (Array.getD_eq_getD_getElem? ..).symm.trans ((hf.at_.keep 3 (by kernel_rfl)).trans (by kernel_rfl))
            obtain ⟨⟨⟨q1, q2⟩, ⟨q3, q4⟩, q5, q6⟩, ⟨q7, q8⟩, q9, q10⟩ := cf2 W5 hf.at_.cls
            refine wpOpIn_step rfl (fun K' hK' => ?_)
            go_simp
            exact hK' _ _ (hK _ _ rfl (Below.refl _ _) (fun h => by cases h))
          case h15 =>
            intro _ o hi b5 W5 hf K hK
            cases hi
            have k80 : b5.tmps[80]?.getD undef = .bool false := (Array.getD_eq_getD_getElem? ..).symm.trans (hf.at_.vals 13 _ 80 ⟨by decide, ⟨13, .guard⟩, by simp, by kernel_rfl, rfl⟩ rfl rfl)
            have g80 := some_bool k80
            have k4 : b5.tmps[4]?.getD undef = .pointer (some ⟨w.heap.size + 1, 0, none⟩) := (Array.getD_eq_getD_getElem? ..).symm.trans ((hf.at_.keep 4 (by kernel_rfl)).trans (by kernel_rfl))
            obtain ⟨⟨⟨q1, q2⟩, ⟨q3, q4⟩, q5, q6⟩, ⟨q7, q8⟩, q9, q10⟩ := cf2 W5 hf.at_.cls
            refine wpOpIn_step rfl (fun K' hK' => ?_)
            go_simp
            exact hK' _ _ (hK _ _ rfl (Below.refl _ _) (fun h => by cases h))
          case h16 =>
            intro _ o hi b5 W5 hf K hK
            cases hi
            have k80 : b5.tmps[80]?.getD undef = .bool false := (Array.getD_eq_getD_getElem? ..).symm.trans (hf.at_.vals 13 _ 80 ⟨by decide, ⟨13, .guard⟩, by simp, by kernel_rfl, rfl⟩ rfl rfl)
            have g80 := some_bool k80
            have k5 : b5.tmps[5]?.getD undef = .pointer (some ⟨w.heap.size + 1 + 1, 0, none⟩) := (Array.getD_eq_getD_getElem? ..).symm.trans ((hf.at_.keep 5 (by kernel_rfl)).trans (by kernel_rfl))
            obtain ⟨⟨⟨q1, q2⟩, ⟨q3, q4⟩, q5, q6⟩, ⟨q7, q8⟩, q9, q10⟩ := cf2 W5 hf.at_.cls
            refine wpOpIn_step rfl (fun K' hK' => ?_)
            go_simp
            exact hK' _ _ (hK _ _ rfl (Below.refl _ _) (fun h => by cases h))
          case h17 =>
            intro _ o hi b5 W5 hf K hK
            cases hi
            have k80 : b5.tmps[80]?.getD undef = .bool false := (Array.getD_eq_getD_getElem? ..).symm.trans (hf.at_.vals 13 _ 80 ⟨by decide, ⟨13, .guard⟩, by simp, by kernel_rfl, rfl⟩ rfl rfl)
            have g80 := some_bool k80
            have k81 : b5.tmps[81]?.getD undef = .agg #[.bool s, .slice A n c] := (Array.getD_eq_getD_getElem? ..).symm.trans (hf.at_.vals 14 _ 81 ⟨by decide, ⟨14, .data⟩, by simp, by kernel_rfl, rfl⟩ rfl rfl)
            have k82 : b5.tmps[82]?.getD undef = .agg #[.bool s', .slice A' n' c'] := (Array.getD_eq_getD_getElem? ..).symm.trans (hf.at_.vals 15 _ 82 ⟨by decide, ⟨15, .data⟩, by simp, by kernel_rfl, rfl⟩ rfl rfl)
            have k83 : b5.tmps[83]?.getD undef = .agg #[.bool s'', .slice A'' n'' c''] := (Array.getD_eq_getD_getElem? ..).symm.trans (hf.at_.vals 16 _ 83 ⟨by decide, ⟨16, .data⟩, by simp, by kernel_rfl, rfl⟩ rfl rfl)
            have ct := ISV.three (UV.mono (ua W5 (up2 W5 hf.at_.cls)) (m' := 60) (by decide)) (UV.mono (ub W5 (up2 W5 hf.at_.cls)) (m' := 60) (by decide)) (UV.mono (uc W5 (up2 W5 hf.at_.cls)) (m' := 60) (by decide)) 25
            refine wpOpIn_step rfl (fun K' hK' => ?_)
            go_simp
            exact hK' _ _ (hK _ _ ct ((Below.refl _ W5).alloc (Nat.le_refl _) _) (fun h => by cases h))
          case h18 =>
            intro _ o hi b5 W5 hf K hK
            cases hi
            have k80 : b5.tmps[80]?.getD undef = .bool false := (Array.getD_eq_getD_getElem? ..).symm.trans (hf.at_.vals 13 _ 80 ⟨by decide, ⟨13, .chain⟩, by simp, by kernel_rfl, rfl⟩ rfl rfl)
            have g80 := some_bool k80
            have v84 := hf.at_.vals 17 _ 84 ⟨by decide, ⟨17, .data⟩, by simp, by kernel_rfl, rfl⟩ rfl rfl; rw [Array.getD_eq_getD_getElem?] at v84
            have ct := mul_w (k := ((va * vb) * vc)) v84 (by simp) (by simp) (by simp)
            refine wpOpIn_step rfl (fun K' hK' => ?_)
            go_simp
            refine CallsIn.mono (callsIn_wide.2 ct) ?_
            rintro e W' ⟨v, rfl, hv, hb⟩
            exact hK' _ _ (hK _ _ hv hb (fun h => by cases h))
          case h19 =>
            intro _ o hi b5 W5 hf K hK
            cases hi
            have k80 : b5.tmps[80]?.getD undef = .bool false := (Array.getD_eq_getD_getElem? ..).symm.trans (hf.at_.vals 13 _ 80 ⟨by decide, ⟨13, .guard⟩, by simp, by kernel_rfl, rfl⟩ rfl rfl)
            have g80 := some_bool k80
            have k8 : b5.tmps[8]?.getD undef = .pointer (some ⟨B8, 0, none⟩) := (Array.getD_eq_getD_getElem? ..).symm.trans ((hf.at_.keep 8 (by kernel_rfl)).trans (by kernel_rfl))
            obtain ⟨⟨⟨q1, q2⟩, ⟨q3, q4⟩, q5, q6⟩, ⟨q7, q8⟩, q9, q10⟩ := cf2 W5 hf.at_.cls
            refine wpOpIn_step rfl (fun K' hK' => ?_)
            go_simp
            exact hK' _ _ (hK _ _ rfl (Below.refl _ _) (fun h => by cases h))
          case h20 =>
            intro _ o hi b5 W5 hf K hK
            cases hi
            have k80 : b5.tmps[80]?.getD undef = .bool false := (Array.getD_eq_getD_getElem? ..).symm.trans (hf.at_.vals 13 _ 80 ⟨by decide, ⟨13, .guard⟩, by simp, by kernel_rfl, rfl⟩ rfl rfl)
            have g80 := some_bool k80
            have k5 : b5.tmps[5]?.getD undef = .pointer (some ⟨w.heap.size + 1 + 1, 0, none⟩) := (Array.getD_eq_getD_getElem? ..).symm.trans ((hf.at_.keep 5 (by kernel_rfl)).trans (by kernel_rfl))
            obtain ⟨⟨⟨q1, q2⟩, ⟨q3, q4⟩, q5, q6⟩, ⟨q7, q8⟩, q9, q10⟩ := cf2 W5 hf.at_.cls
            refine wpOpIn_step rfl (fun K' hK' => ?_)
            go_simp
            exact hK' _ _ (hK _ _ rfl (Below.refl _ _) (fun h => by cases h))
          case h21 =>
            intro _ o hi b5 W5 hf K hK
            cases hi
            have k80 : b5.tmps[80]?.getD undef = .bool false := (Array.getD_eq_getD_getElem? ..).symm.trans (hf.at_.vals 13 _ 80 ⟨by decide, ⟨13, .guard⟩, by simp, by kernel_rfl, rfl⟩ rfl rfl)
            have g80 := some_bool k80
            have k86 : b5.tmps[86]?.getD undef = .agg #[.bool (decide ((va * vb) < 0)), .slice Ap np cp] := (Array.getD_eq_getD_getElem? ..).symm.trans (hf.at_.vals 19 _ 86 ⟨by decide, ⟨19, .data⟩, by simp, by kernel_rfl, rfl⟩ rfl rfl)
            have k87 : b5.tmps[87]?.getD undef = .agg #[.bool s'', .slice A'' n'' c''] := (Array.getD_eq_getD_getElem? ..).symm.trans (hf.at_.vals 20 _ 87 ⟨by decide, ⟨20, .data⟩, by simp, by kernel_rfl, rfl⟩ rfl rfl)
            have ct := ISV.two (NV.uv' (nvp W5 (dn2 W5 hf.at_.cls)) (Bd.mul ba bb)) (UV.mono (uc W5 (up2 W5 hf.at_.cls)) (m' := 120) (by decide)) 25
            refine wpOpIn_step rfl (fun K' hK' => ?_)
            go_simp
            exact hK' _ _ (hK _ _ ct ((Below.refl _ W5).alloc (Nat.le_refl _) _) (fun h => by cases h))
          case h22 =>
            intro _ o hi b5 W5 hf K hK
            cases hi
            have k80 : b5.tmps[80]?.getD undef = .bool false := (Array.getD_eq_getD_getElem? ..).symm.trans (hf.at_.vals 13 _ 80 ⟨by decide, ⟨13, .guard⟩, by simp, by kernel_rfl, rfl⟩ rfl rfl)
            have g80 := some_bool k80
            have v88 := hf.at_.vals 21 _ 88 ⟨by decide, ⟨21, .data⟩, by simp, by kernel_rfl, rfl⟩ rfl rfl; rw [Array.getD_eq_getD_getElem?] at v88
            have ct := mul_w (k := ((va * vb) * vc)) v88 (by simp) (by simp) (by simp)
            refine wpOpIn_step rfl (fun K' hK' => ?_)
            go_simp
            refine CallsIn.mono (callsIn_wide.2 ct) ?_
            rintro e W' ⟨v, rfl, hv, hb⟩
            exact hK' _ _ (hK _ _ hv hb (fun h => by cases h))
          case h23 =>
            intro _ o hi b5 W5 hf K hK
            cases hi
            have k80 : b5.tmps[80]?.getD undef = .bool false := (Array.getD_eq_getD_getElem? ..).symm.trans (hf.at_.vals 13 _ 80 ⟨by decide, ⟨13, .guard⟩, by simp, by kernel_rfl, rfl⟩ rfl rfl)
            have g80 := some_bool k80
            have v85 := hf.at_.vals 18 _ 85 ⟨by decide, ⟨18, .data⟩, by simp, by kernel_rfl, rfl⟩ rfl rfl; rw [Array.getD_eq_getD_getElem?] at v85
            have v89 := hf.at_.vals 22 _ 89 ⟨by decide, ⟨22, .data⟩, by simp, by kernel_rfl, rfl⟩ rfl rfl; rw [Array.getD_eq_getD_getElem?] at v89
            have ct := lawsame_t v85 v89 (show ((va * vb) * vc) = ((va * vb) * vc) from by grind)
            refine wpOpIn_step rfl (fun K' hK' => ?_)
            go_simp
            refine CallsIn.mono (callsIn_wide.2 ct) ?_
            rintro e W' ⟨rfl, hb⟩
            exact hK' _ _ (hK _ _ rfl hb (fun h => by cases h))
          case h24 =>
            intro _ o hi b5 W5 hf K hK
            cases hi
            have k80 : b5.tmps[80]?.getD undef = .bool false := (Array.getD_eq_getD_getElem? ..).symm.trans (hf.at_.vals 13 _ 80 ⟨by decide, ⟨13, .guard⟩, by simp, by kernel_rfl, rfl⟩ rfl rfl)
            have g80 := some_bool k80
            have k90 : b5.tmps[90]?.getD undef = .bool true := (Array.getD_eq_getD_getElem? ..).symm.trans (hf.at_.vals 23 _ 90 ⟨by decide, ⟨23, .data⟩, by simp, by kernel_rfl, rfl⟩ rfl rfl)
            refine wpOpIn_step rfl (fun K' hK' => ?_)
            go_simp
            exact hK' _ _ (hK _ _ rfl (Below.refl _ _) (fun h => by cases h))
          case h25 =>
            intro _ o hi b5 W5 hf K hK
            cases hi
            have k80 : b5.tmps[80]?.getD undef = .bool false := (Array.getD_eq_getD_getElem? ..).symm.trans (hf.at_.vals 13 _ 80 ⟨by decide, ⟨13, .data⟩, by simp, by kernel_rfl, rfl⟩ rfl rfl)
            have k91 : b5.tmps[91]?.getD undef = .bool false := (Array.getD_eq_getD_getElem? ..).symm.trans (hf.at_.vals 24 _ 91 ⟨by decide, ⟨24, .data⟩, by simp, by kernel_rfl, rfl⟩ rfl rfl)
            refine wpOpIn_step rfl (fun K' hK' => ?_)
            go_simp
            exact hK' _ _ (hK _ _ rfl (Below.refl _ _) (fun h => by cases h))
          case h26 =>
            intro _ o hi b5 W5 hf K hK
            cases hi
            have k92 : b5.tmps[92]?.getD undef = .bool false := (Array.getD_eq_getD_getElem? ..).symm.trans (hf.at_.vals 25 _ 92 ⟨by decide, ⟨25, .data⟩, by simp, by kernel_rfl, rfl⟩ rfl rfl)
            refine wpOpIn_step rfl (fun K' hK' => ?_)
            go_simp
            exact hK' _ _ (hK _ _ rfl (Below.refl _ _) (fun h => by cases h))
          case h27 =>
            intro _ o hi b5 W5 hf K hK
            cases hi
            have k93 : b5.tmps[93]?.getD undef = .bool false := (Array.getD_eq_getD_getElem? ..).symm.trans (hf.at_.vals 26 _ 93 ⟨by decide, ⟨26, .guard⟩, by simp, by kernel_rfl, rfl⟩ rfl rfl)
            have g93 := some_bool k93
            have k3 : b5.tmps[3]?.getD undef = .pointer (some ⟨w.heap.size, 0, none⟩) := (Array.getD_eq_getD_getElem? ..).symm.trans ((hf.at_.keep 3 (by kernel_rfl)).trans (by kernel_rfl))
            obtain ⟨⟨⟨q1, q2⟩, ⟨q3, q4⟩, q5, q6⟩, ⟨q7, q8⟩, q9, q10⟩ := cf2 W5 hf.at_.cls
            refine wpOpIn_step rfl (fun K' hK' => ?_)
            go_simp
            exact hK' _ _ (hK _ _ rfl (Below.refl _ _) (fun h => by cases h))
          case h28 =>
            intro _ o hi b5 W5 hf K hK
            cases hi
            have k93 : b5.tmps[93]?.getD undef = .bool false := (Array.getD_eq_getD_getElem? ..).symm.trans (hf.at_.vals 26 _ 93 ⟨by decide, ⟨26, .guard⟩, by simp, by kernel_rfl, rfl⟩ rfl rfl)
            have g93 := some_bool k93
            have k4 : b5.tmps[4]?.getD undef = .pointer (some ⟨w.heap.size + 1, 0, none⟩) := (Array.getD_eq_getD_getElem? ..).symm.trans ((hf.at_.keep 4 (by kernel_rfl)).trans (by kernel_rfl))
            obtain ⟨⟨⟨q1, q2⟩, ⟨q3, q4⟩, q5, q6⟩, ⟨q7, q8⟩, q9, q10⟩ := cf2 W5 hf.at_.cls
            refine wpOpIn_step rfl (fun K' hK' => ?_)
            go_simp
            exact hK' _ _ (hK _ _ rfl (Below.refl _ _) (fun h => by cases h))
          case h29 =>
            intro _ o hi b5 W5 hf K hK
            cases hi
            have k93 : b5.tmps[93]?.getD undef = .bool false := (Array.getD_eq_getD_getElem? ..).symm.trans (hf.at_.vals 26 _ 93 ⟨by decide, ⟨26, .guard⟩, by simp, by kernel_rfl, rfl⟩ rfl rfl)
            have g93 := some_bool k93
            have k94 : b5.tmps[94]?.getD undef = .agg #[.bool s, .slice A n c] := (Array.getD_eq_getD_getElem? ..).symm.trans (hf.at_.vals 27 _ 94 ⟨by decide, ⟨27, .data⟩, by simp, by kernel_rfl, rfl⟩ rfl rfl)
            have k95 : b5.tmps[95]?.getD undef = .agg #[.bool s', .slice A' n' c'] := (Array.getD_eq_getD_getElem? ..).symm.trans (hf.at_.vals 28 _ 95 ⟨by decide, ⟨28, .data⟩, by simp, by kernel_rfl, rfl⟩ rfl rfl)
            have ct := ISV.two (UV.mono (ua W5 (up2 W5 hf.at_.cls)) (m' := 60) (by decide)) (UV.mono (ub W5 (up2 W5 hf.at_.cls)) (m' := 60) (by decide)) 25
            refine wpOpIn_step rfl (fun K' hK' => ?_)
            go_simp
            exact hK' _ _ (hK _ _ ct ((Below.refl _ W5).alloc (Nat.le_refl _) _) (fun h => by cases h))
          case h30 =>
            intro _ o hi b5 W5 hf K hK
            cases hi
            have k93 : b5.tmps[93]?.getD undef = .bool false := (Array.getD_eq_getD_getElem? ..).symm.trans (hf.at_.vals 26 _ 93 ⟨by decide, ⟨26, .chain⟩, by simp, by kernel_rfl, rfl⟩ rfl rfl)
            have g93 := some_bool k93
            have v96 := hf.at_.vals 29 _ 96 ⟨by decide, ⟨29, .data⟩, by simp, by kernel_rfl, rfl⟩ rfl rfl; rw [Array.getD_eq_getD_getElem?] at v96
            have ct := add_w (k := (va + vb)) v96 (by decide) (by simp) (by simp)
            refine wpOpIn_step rfl (fun K' hK' => ?_)
            go_simp
            refine CallsIn.mono (callsIn_wide.2 ct) ?_
            rintro e W' ⟨v, rfl, hv, hb⟩
            exact hK' _ _ (hK _ _ hv hb (fun h => by cases h))
          case h31 =>
            intro _ o hi b5 W5 hf K hK
            cases hi
            have k93 : b5.tmps[93]?.getD undef = .bool false := (Array.getD_eq_getD_getElem? ..).symm.trans (hf.at_.vals 26 _ 93 ⟨by decide, ⟨26, .guard⟩, by simp, by kernel_rfl, rfl⟩ rfl rfl)
            have g93 := some_bool k93
            have k5 : b5.tmps[5]?.getD undef = .pointer (some ⟨w.heap.size + 1 + 1, 0, none⟩) := (Array.getD_eq_getD_getElem? ..).symm.trans ((hf.at_.keep 5 (by kernel_rfl)).trans (by kernel_rfl))
            obtain ⟨⟨⟨q1, q2⟩, ⟨q3, q4⟩, q5, q6⟩, ⟨q7, q8⟩, q9, q10⟩ := cf2 W5 hf.at_.cls
            refine wpOpIn_step rfl (fun K' hK' => ?_)
            go_simp
            exact hK' _ _ (hK _ _ rfl (Below.refl _ _) (fun h => by cases h))
          case h32 =>
            intro _ o hi b5 W5 hf K hK
            cases hi
            have k93 : b5.tmps[93]?.getD undef = .bool false := (Array.getD_eq_getD_getElem? ..).symm.trans (hf.at_.vals 26 _ 93 ⟨by decide, ⟨26, .guard⟩, by simp, by kernel_rfl, rfl⟩ rfl rfl)
            have g93 := some_bool k93
            have v97 := hf.at_.vals 30 _ 97 ⟨by decide, ⟨30, .data⟩, by simp, by kernel_rfl, rfl⟩ rfl rfl; rw [Array.getD_eq_getD_getElem?] at v97
            have k98 : b5.tmps[98]?.getD undef = .agg #[.bool s'', .slice A'' n'' c''] := (Array.getD_eq_getD_getElem? ..).symm.trans (hf.at_.vals 31 _ 98 ⟨by decide, ⟨31, .data⟩, by simp, by kernel_rfl, rfl⟩ rfl rfl)
            obtain ⟨s97, A97, n97, c97, k97, w97⟩ := NV.open v97 (Bd.add ba bb)
            have ct := ISV.two w97 (UV.mono (uc W5 (up2 W5 hf.at_.cls)) (m' := 61) (by decide)) 25
            refine wpOpIn_step rfl (fun K' hK' => ?_)
            go_simp
            exact hK' _ _ (hK _ _ ct ((Below.refl _ W5).alloc (Nat.le_refl _) _) (fun h => by cases h))
          case h33 =>
            intro _ o hi b5 W5 hf K hK
            cases hi
            have k93 : b5.tmps[93]?.getD undef = .bool false := (Array.getD_eq_getD_getElem? ..).symm.trans (hf.at_.vals 26 _ 93 ⟨by decide, ⟨26, .guard⟩, by simp, by kernel_rfl, rfl⟩ rfl rfl)
            have g93 := some_bool k93
            have v99 := hf.at_.vals 32 _ 99 ⟨by decide, ⟨32, .data⟩, by simp, by kernel_rfl, rfl⟩ rfl rfl; rw [Array.getD_eq_getD_getElem?] at v99
            have ct := mul_w (k := ((va + vb) * vc)) v99 (by simp) (by simp) (by simp)
            refine wpOpIn_step rfl (fun K' hK' => ?_)
            go_simp
            refine CallsIn.mono (callsIn_wide.2 ct) ?_
            rintro e W' ⟨v, rfl, hv, hb⟩
            exact hK' _ _ (hK _ _ hv hb (fun h => by cases h))
          case h34 =>
            intro _ o hi b5 W5 hf K hK
            cases hi
            have k93 : b5.tmps[93]?.getD undef = .bool false := (Array.getD_eq_getD_getElem? ..).symm.trans (hf.at_.vals 26 _ 93 ⟨by decide, ⟨26, .guard⟩, by simp, by kernel_rfl, rfl⟩ rfl rfl)
            have g93 := some_bool k93
            have k3 : b5.tmps[3]?.getD undef = .pointer (some ⟨w.heap.size, 0, none⟩) := (Array.getD_eq_getD_getElem? ..).symm.trans ((hf.at_.keep 3 (by kernel_rfl)).trans (by kernel_rfl))
            obtain ⟨⟨⟨q1, q2⟩, ⟨q3, q4⟩, q5, q6⟩, ⟨q7, q8⟩, q9, q10⟩ := cf2 W5 hf.at_.cls
            refine wpOpIn_step rfl (fun K' hK' => ?_)
            go_simp
            exact hK' _ _ (hK _ _ rfl (Below.refl _ _) (fun h => by cases h))
          case h35 =>
            intro _ o hi b5 W5 hf K hK
            cases hi
            have k93 : b5.tmps[93]?.getD undef = .bool false := (Array.getD_eq_getD_getElem? ..).symm.trans (hf.at_.vals 26 _ 93 ⟨by decide, ⟨26, .guard⟩, by simp, by kernel_rfl, rfl⟩ rfl rfl)
            have g93 := some_bool k93
            have k5 : b5.tmps[5]?.getD undef = .pointer (some ⟨w.heap.size + 1 + 1, 0, none⟩) := (Array.getD_eq_getD_getElem? ..).symm.trans ((hf.at_.keep 5 (by kernel_rfl)).trans (by kernel_rfl))
            obtain ⟨⟨⟨q1, q2⟩, ⟨q3, q4⟩, q5, q6⟩, ⟨q7, q8⟩, q9, q10⟩ := cf2 W5 hf.at_.cls
            refine wpOpIn_step rfl (fun K' hK' => ?_)
            go_simp
            exact hK' _ _ (hK _ _ rfl (Below.refl _ _) (fun h => by cases h))
          case h36 =>
            intro _ o hi b5 W5 hf K hK
            cases hi
            have k93 : b5.tmps[93]?.getD undef = .bool false := (Array.getD_eq_getD_getElem? ..).symm.trans (hf.at_.vals 26 _ 93 ⟨by decide, ⟨26, .guard⟩, by simp, by kernel_rfl, rfl⟩ rfl rfl)
            have g93 := some_bool k93
            have k101 : b5.tmps[101]?.getD undef = .agg #[.bool s, .slice A n c] := (Array.getD_eq_getD_getElem? ..).symm.trans (hf.at_.vals 34 _ 101 ⟨by decide, ⟨34, .data⟩, by simp, by kernel_rfl, rfl⟩ rfl rfl)
            have k102 : b5.tmps[102]?.getD undef = .agg #[.bool s'', .slice A'' n'' c''] := (Array.getD_eq_getD_getElem? ..).symm.trans (hf.at_.vals 35 _ 102 ⟨by decide, ⟨35, .data⟩, by simp, by kernel_rfl, rfl⟩ rfl rfl)
            have ct := ISV.two (UV.mono (ua W5 (up2 W5 hf.at_.cls)) (m' := 60) (by decide)) (UV.mono (uc W5 (up2 W5 hf.at_.cls)) (m' := 60) (by decide)) 25
            refine wpOpIn_step rfl (fun K' hK' => ?_)
            go_simp
            exact hK' _ _ (hK _ _ ct ((Below.refl _ W5).alloc (Nat.le_refl _) _) (fun h => by cases h))
          case h37 =>
            intro _ o hi b5 W5 hf K hK
            cases hi
            have k93 : b5.tmps[93]?.getD undef = .bool false := (Array.getD_eq_getD_getElem? ..).symm.trans (hf.at_.vals 26 _ 93 ⟨by decide, ⟨26, .guard⟩, by simp, by kernel_rfl, rfl⟩ rfl rfl)
            have g93 := some_bool k93
            have v103 := hf.at_.vals 36 _ 103 ⟨by decide, ⟨36, .data⟩, by simp, by kernel_rfl, rfl⟩ rfl rfl; rw [Array.getD_eq_getD_getElem?] at v103
            have ct := mul_w (k := (va * vc)) v103 (by simp) (by simp) (by simp)
            refine wpOpIn_step rfl (fun K' hK' => ?_)
            go_simp
            refine CallsIn.mono (callsIn_wide.2 ct) ?_
            rintro e W' ⟨v, rfl, hv, hb⟩
            exact hK' _ _ (hK _ _ hv hb (fun h => by cases h))
          case h38 =>
            intro _ o hi b5 W5 hf K hK
            cases hi
            have k93 : b5.tmps[93]?.getD undef = .bool false := (Array.getD_eq_getD_getElem? ..).symm.trans (hf.at_.vals 26 _ 93 ⟨by decide, ⟨26, .guard⟩, by simp, by kernel_rfl, rfl⟩ rfl rfl)
            have g93 := some_bool k93
            have k4 : b5.tmps[4]?.getD undef = .pointer (some ⟨w.heap.size + 1, 0, none⟩) := (Array.getD_eq_getD_getElem? ..).symm.trans ((hf.at_.keep 4 (by kernel_rfl)).trans (by kernel_rfl))
            obtain ⟨⟨⟨q1, q2⟩, ⟨q3, q4⟩, q5, q6⟩, ⟨q7, q8⟩, q9, q10⟩ := cf2 W5 hf.at_.cls
            refine wpOpIn_step rfl (fun K' hK' => ?_)
            go_simp
            exact hK' _ _ (hK _ _ rfl (Below.refl _ _) (fun h => by cases h))
          case h39 =>
            intro _ o hi b5 W5 hf K hK
            cases hi
            have k93 : b5.tmps[93]?.getD undef = .bool false := (Array.getD_eq_getD_getElem? ..).symm.trans (hf.at_.vals 26 _ 93 ⟨by decide, ⟨26, .guard⟩, by simp, by kernel_rfl, rfl⟩ rfl rfl)
            have g93 := some_bool k93
            have k5 : b5.tmps[5]?.getD undef = .pointer (some ⟨w.heap.size + 1 + 1, 0, none⟩) := (Array.getD_eq_getD_getElem? ..).symm.trans ((hf.at_.keep 5 (by kernel_rfl)).trans (by kernel_rfl))
            obtain ⟨⟨⟨q1, q2⟩, ⟨q3, q4⟩, q5, q6⟩, ⟨q7, q8⟩, q9, q10⟩ := cf2 W5 hf.at_.cls
            refine wpOpIn_step rfl (fun K' hK' => ?_)
            go_simp
            exact hK' _ _ (hK _ _ rfl (Below.refl _ _) (fun h => by cases h))
          case h40 =>
            intro _ o hi b5 W5 hf K hK
            cases hi
            have k93 : b5.tmps[93]?.getD undef = .bool false := (Array.getD_eq_getD_getElem? ..).symm.trans (hf.at_.vals 26 _ 93 ⟨by decide, ⟨26, .guard⟩, by simp, by kernel_rfl, rfl⟩ rfl rfl)
            have g93 := some_bool k93
            have k105 : b5.tmps[105]?.getD undef = .agg #[.bool s', .slice A' n' c'] := (Array.getD_eq_getD_getElem? ..).symm.trans (hf.at_.vals 38 _ 105 ⟨by decide, ⟨38, .data⟩, by simp, by kernel_rfl, rfl⟩ rfl rfl)
            have k106 : b5.tmps[106]?.getD undef = .agg #[.bool s'', .slice A'' n'' c''] := (Array.getD_eq_getD_getElem? ..).symm.trans (hf.at_.vals 39 _ 106 ⟨by decide, ⟨39, .data⟩, by simp, by kernel_rfl, rfl⟩ rfl rfl)
            have ct := ISV.two (UV.mono (ub W5 (up2 W5 hf.at_.cls)) (m' := 60) (by decide)) (UV.mono (uc W5 (up2 W5 hf.at_.cls)) (m' := 60) (by decide)) 25
            refine wpOpIn_step rfl (fun K' hK' => ?_)
            go_simp
            exact hK' _ _ (hK _ _ ct ((Below.refl _ W5).alloc (Nat.le_refl _) _) (fun h => by cases h))
          case h41 =>
            intro _ o hi b5 W5 hf K hK
            cases hi
            have k93 : b5.tmps[93]?.getD undef = .bool false := (Array.getD_eq_getD_getElem? ..).symm.trans (hf.at_.vals 26 _ 93 ⟨by decide, ⟨26, .guard⟩, by simp, by kernel_rfl, rfl⟩ rfl rfl)
            have g93 := some_bool k93
            have v107 := hf.at_.vals 40 _ 107 ⟨by decide, ⟨40, .data⟩, by simp, by kernel_rfl, rfl⟩ rfl rfl; rw [Array.getD_eq_getD_getElem?] at v107
            have ct := mul_w (k := (vb * vc)) v107 (by simp) (by simp) (by simp)
            refine wpOpIn_step rfl (fun K' hK' => ?_)
            go_simp
            refine CallsIn.mono (callsIn_wide.2 ct) ?_
            rintro e W' ⟨v, rfl, hv, hb⟩
            exact hK' _ _ (hK _ _ hv hb (fun h => by cases h))
          case h42 =>
            intro _ o hi b5 W5 hf K hK
            cases hi
            have k93 : b5.tmps[93]?.getD undef = .bool false := (Array.getD_eq_getD_getElem? ..).symm.trans (hf.at_.vals 26 _ 93 ⟨by decide, ⟨26, .guard⟩, by simp, by kernel_rfl, rfl⟩ rfl rfl)
            have g93 := some_bool k93
            have v104 := hf.at_.vals 37 _ 104 ⟨by decide, ⟨37, .data⟩, by simp, by kernel_rfl, rfl⟩ rfl rfl; rw [Array.getD_eq_getD_getElem?] at v104
            have v108 := hf.at_.vals 41 _ 108 ⟨by decide, ⟨41, .data⟩, by simp, by kernel_rfl, rfl⟩ rfl rfl; rw [Array.getD_eq_getD_getElem?] at v108
            obtain ⟨s104, A104, n104, c104, k104, w104⟩ := NV.open v104 (Bd.mul ba bc)
            obtain ⟨s108, A108, n108, c108, k108, w108⟩ := NV.open v108 (Bd.mul bb bc)
            have ct := ISV.two w104 w108 25
            refine wpOpIn_step rfl (fun K' hK' => ?_)
            go_simp
            exact hK' _ _ (hK _ _ ct ((Below.refl _ W5).alloc (Nat.le_refl _) _) (fun h => by cases h))
          case h43 =>
            intro _ o hi b5 W5 hf K hK
            cases hi
            have k93 : b5.tmps[93]?.getD undef = .bool false := (Array.getD_eq_getD_getElem? ..).symm.trans (hf.at_.vals 26 _ 93 ⟨by decide, ⟨26, .guard⟩, by simp, by kernel_rfl, rfl⟩ rfl rfl)
            have g93 := some_bool k93
            have v109 := hf.at_.vals 42 _ 109 ⟨by decide, ⟨42, .data⟩, by simp, by kernel_rfl, rfl⟩ rfl rfl; rw [Array.getD_eq_getD_getElem?] at v109
            have ct := add_w (k := ((va * vc) + (vb * vc))) v109 (by decide) (by simp) (by simp)
            refine wpOpIn_step rfl (fun K' hK' => ?_)
            go_simp
            refine CallsIn.mono (callsIn_wide.2 ct) ?_
            rintro e W' ⟨v, rfl, hv, hb⟩
            exact hK' _ _ (hK _ _ hv hb (fun h => by cases h))
          case h44 =>
            intro _ o hi b5 W5 hf K hK
            cases hi
            have k93 : b5.tmps[93]?.getD undef = .bool false := (Array.getD_eq_getD_getElem? ..).symm.trans (hf.at_.vals 26 _ 93 ⟨by decide, ⟨26, .guard⟩, by simp, by kernel_rfl, rfl⟩ rfl rfl)
            have g93 := some_bool k93
            have v100 := hf.at_.vals 33 _ 100 ⟨by decide, ⟨33, .data⟩, by simp, by kernel_rfl, rfl⟩ rfl rfl; rw [Array.getD_eq_getD_getElem?] at v100
            have v110 := hf.at_.vals 43 _ 110 ⟨by decide, ⟨43, .data⟩, by simp, by kernel_rfl, rfl⟩ rfl rfl; rw [Array.getD_eq_getD_getElem?] at v110
            have ct := lawsame_t v100 v110 (show ((va + vb) * vc) = ((va * vc) + (vb * vc)) from by grind)
            refine wpOpIn_step rfl (fun K' hK' => ?_)
            go_simp
            refine CallsIn.mono (callsIn_wide.2 ct) ?_
            rintro e W' ⟨rfl, hb⟩
            exact hK' _ _ (hK _ _ rfl hb (fun h => by cases h))
          case h45 =>
            intro _ o hi b5 W5 hf K hK
            cases hi
            have k93 : b5.tmps[93]?.getD undef = .bool false := (Array.getD_eq_getD_getElem? ..).symm.trans (hf.at_.vals 26 _ 93 ⟨by decide, ⟨26, .guard⟩, by simp, by kernel_rfl, rfl⟩ rfl rfl)
            have g93 := some_bool k93
            have k111 : b5.tmps[111]?.getD undef = .bool true := (Array.getD_eq_getD_getElem? ..).symm.trans (hf.at_.vals 44 _ 111 ⟨by decide, ⟨44, .data⟩, by simp, by kernel_rfl, rfl⟩ rfl rfl)
            refine wpOpIn_step rfl (fun K' hK' => ?_)
            go_simp
            exact hK' _ _ (hK _ _ rfl (Below.refl _ _) (fun h => by cases h))
          case h46 =>
            intro _ o hi b5 W5 hf K hK
            cases hi
            have k93 : b5.tmps[93]?.getD undef = .bool false := (Array.getD_eq_getD_getElem? ..).symm.trans (hf.at_.vals 26 _ 93 ⟨by decide, ⟨26, .data⟩, by simp, by kernel_rfl, rfl⟩ rfl rfl)
            have k112 : b5.tmps[112]?.getD undef = .bool false := (Array.getD_eq_getD_getElem? ..).symm.trans (hf.at_.vals 45 _ 112 ⟨by decide, ⟨45, .data⟩, by simp, by kernel_rfl, rfl⟩ rfl rfl)
            refine wpOpIn_step rfl (fun K' hK' => ?_)
            go_simp
            exact hK' _ _ (hK _ _ rfl (Below.refl _ _) (fun h => by cases h))
        case fin =>
          intro b5 W9 hf
          have e113 : b5.tmps.getD 113 undef = .bool false := hf.at_.vals 46 _ 113 ⟨by decide, by decide⟩ rfl rfl
          have hE := frame_eq [67, 68, 69, 70, 71, 72, 73, 74, 75, 76, 77, 78, 79, 80, 81, 82, 83, 84, 85, 86, 87, 88, 89, 90, 91, 92, 93, 94, 95, 96, 97, 98, 99, 100, 101, 102, 103, 104, 105, 106, 107, 108, 109, 110, 111, 112, 113] hf.at_.size (fun t ht5 => hf.at_.keep t (not_dst (by rw [show dstList _ _ = [67, 68, 69, 70, 71, 72, 73, 74, 75, 76, 77, 78, 79, 80, 81, 82, 83, 84, 85, 86, 87, 88, 89, 90, 91, 92, 93, 94, 95, 96, 97, 98, 99, 100, 101, 102, 103, 104, 105, 106, 107, 108, 109, 110, 111, 112, 113] from by kernel_rfl]; exact ht5)))
          have hcl5 := hf.at_.cls
          obtain ⟨tm, df⟩ := b5
          obtain rfl : df = _ := hf.at_.defers
          clear hf
          simp only [List.foldl_cons, List.foldl_nil] at hE
          rw [show tm.getD 113 undef = _ from e113] at hE; clear e113
          obtain ⟨u67, hu67⟩ : ∃ x, tm.getD 67 undef = x := ⟨_, rfl⟩; rw [hu67] at hE; clear hu67
          obtain ⟨u68, hu68⟩ : ∃ x, tm.getD 68 undef = x := ⟨_, rfl⟩; rw [hu68] at hE; clear hu68
          obtain ⟨u69, hu69⟩ : ∃ x, tm.getD 69 undef = x := ⟨_, rfl⟩; rw [hu69] at hE; clear hu69
          obtain ⟨u70, hu70⟩ : ∃ x, tm.getD 70 undef = x := ⟨_, rfl⟩; rw [hu70] at hE; clear hu70
          obtain ⟨u71, hu71⟩ : ∃ x, tm.getD 71 undef = x := ⟨_, rfl⟩; rw [hu71] at hE; clear hu71
          obtain ⟨u72, hu72⟩ : ∃ x, tm.getD 72 undef = x := ⟨_, rfl⟩; rw [hu72] at hE; clear hu72
          obtain ⟨u73, hu73⟩ : ∃ x, tm.getD 73 undef = x := ⟨_, rfl⟩; rw [hu73] at hE; clear hu73
          obtain ⟨u74, hu74⟩ : ∃ x, tm.getD 74 undef = x := ⟨_, rfl⟩; rw [hu74] at hE; clear hu74
          obtain ⟨u75, hu75⟩ : ∃ x, tm.getD 75 undef = x := ⟨_, rfl⟩; rw [hu75] at hE; clear hu75
          obtain ⟨u76, hu76⟩ : ∃ x, tm.getD 76 undef = x := ⟨_, rfl⟩; rw [hu76] at hE; clear hu76
          obtain ⟨u77, hu77⟩ : ∃ x, tm.getD 77 undef = x := ⟨_, rfl⟩; rw [hu77] at hE; clear hu77
          obtain ⟨u78, hu78⟩ : ∃ x, tm.getD 78 undef = x := ⟨_, rfl⟩; rw [hu78] at hE; clear hu78
          obtain ⟨u79, hu79⟩ : ∃ x, tm.getD 79 undef = x := ⟨_, rfl⟩; rw [hu79] at hE; clear hu79
          obtain ⟨u80, hu80⟩ : ∃ x, tm.getD 80 undef = x := ⟨_, rfl⟩; rw [hu80] at hE; clear hu80
          obtain ⟨u81, hu81⟩ : ∃ x, tm.getD 81 undef = x := ⟨_, rfl⟩; rw [hu81] at hE; clear hu81
          obtain ⟨u82, hu82⟩ : ∃ x, tm.getD 82 undef = x := ⟨_, rfl⟩; rw [hu82] at hE; clear hu82
          obtain ⟨u83, hu83⟩ : ∃ x, tm.getD 83 undef = x := ⟨_, rfl⟩; rw [hu83] at hE; clear hu83
          obtain ⟨u84, hu84⟩ : ∃ x, tm.getD 84 undef = x := ⟨_, rfl⟩; rw [hu84] at hE; clear hu84
          obtain ⟨u85, hu85⟩ : ∃ x, tm.getD 85 undef = x := ⟨_, rfl⟩; rw [hu85] at hE; clear hu85
          obtain ⟨u86, hu86⟩ : ∃ x, tm.getD 86 undef = x := ⟨_, rfl⟩; rw [hu86] at hE; clear hu86
          obtain ⟨u87, hu87⟩ : ∃ x, tm.getD 87 undef = x := ⟨_, rfl⟩; rw [hu87] at hE; clear hu87
          obtain ⟨u88, hu88⟩ : ∃ x, tm.getD 88 undef = x := ⟨_, rfl⟩; rw [hu88] at hE; clear hu88
          obtain ⟨u89, hu89⟩ : ∃ x, tm.getD 89 undef = x := ⟨_, rfl⟩; rw [hu89] at hE; clear hu89
          obtain ⟨u90, hu90⟩ : ∃ x, tm.getD 90 undef = x := ⟨_, rfl⟩; rw [hu90] at hE; clear hu90
          obtain ⟨u91, hu91⟩ : ∃ x, tm.getD 91 undef = x := ⟨_, rfl⟩; rw [hu91] at hE; clear hu91
          obtain ⟨u92, hu92⟩ : ∃ x, tm.getD 92 undef = x := ⟨_, rfl⟩; rw [hu92] at hE; clear hu92
          obtain ⟨u93, hu93⟩ : ∃ x, tm.getD 93 undef = x := ⟨_, rfl⟩; rw [hu93] at hE; clear hu93
          obtain ⟨u94, hu94⟩ : ∃ x, tm.getD 94 undef = x := ⟨_, rfl⟩; rw [hu94] at hE; clear hu94
          obtain ⟨u95, hu95⟩ : ∃ x, tm.getD 95 undef = x := ⟨_, rfl⟩; rw [hu95] at hE; clear hu95
          obtain ⟨u96, hu96⟩ : ∃ x, tm.getD 96 undef = x := ⟨_, rfl⟩; rw [hu96] at hE; clear hu96
          obtain ⟨u97, hu97⟩ : ∃ x, tm.getD 97 undef = x := ⟨_, rfl⟩; rw [hu97] at hE; clear hu97
          obtain ⟨u98, hu98⟩ : ∃ x, tm.getD 98 undef = x := ⟨_, rfl⟩; rw [hu98] at hE; clear hu98
          obtain ⟨u99, hu99⟩ : ∃ x, tm.getD 99 undef = x := ⟨_, rfl⟩; rw [hu99] at hE; clear hu99
          obtain ⟨u100, hu100⟩ : ∃ x, tm.getD 100 undef = x := ⟨_, rfl⟩; rw [hu100] at hE; clear hu100
          obtain ⟨u101, hu101⟩ : ∃ x, tm.getD 101 undef = x := ⟨_, rfl⟩; rw [hu101] at hE; clear hu101
          obtain ⟨u102, hu102⟩ : ∃ x, tm.getD 102 undef = x := ⟨_, rfl⟩; rw [hu102] at hE; clear hu102
          obtain ⟨u103, hu103⟩ : ∃ x, tm.getD 103 undef = x := ⟨_, rfl⟩; rw [hu103] at hE; clear hu103
          obtain ⟨u104, hu104⟩ : ∃ x, tm.getD 104 undef = x := ⟨_, rfl⟩; rw [hu104] at hE; clear hu104
          obtain ⟨u105, hu105⟩ : ∃ x, tm.getD 105 undef = x := ⟨_, rfl⟩; rw [hu105] at hE; clear hu105
          obtain ⟨u106, hu106⟩ : ∃ x, tm.getD 106 undef = x := ⟨_, rfl⟩; rw [hu106] at hE; clear hu106
          obtain ⟨u107, hu107⟩ : ∃ x, tm.getD 107 undef = x := ⟨_, rfl⟩; rw [hu107] at hE; clear hu107
          obtain ⟨u108, hu108⟩ : ∃ x, tm.getD 108 undef = x := ⟨_, rfl⟩; rw [hu108] at hE; clear hu108
          obtain ⟨u109, hu109⟩ : ∃ x, tm.getD 109 undef = x := ⟨_, rfl⟩; rw [hu109] at hE; clear hu109
          obtain ⟨u110, hu110⟩ : ∃ x, tm.getD 110 undef = x := ⟨_, rfl⟩; rw [hu110] at hE; clear hu110
          obtain ⟨u111, hu111⟩ : ∃ x, tm.getD 111 undef = x := ⟨_, rfl⟩; rw [hu111] at hE; clear hu111
          obtain ⟨u112, hu112⟩ : ∃ x, tm.getD 112 undef = x := ⟨_, rfl⟩; rw [hu112] at hE; clear hu112
          rewrite [hE]
          clear hE
          refine doneP (by kernel_rfl) ?_
          have cf3 := fun (W : World) (hb : Below W9.heap.size W9 W) => cf2 W (hcl5.trans (hb.mono hcl5.size))
          have up3 := fun (W : World) (hb : Below W9.heap.size W9 W) => up2 W (hcl5.trans (hb.mono hcl5.size))
          have dn3 := fun (W : World) (hb : Below W9.heap.size W9 W) => dn2 W (hcl5.trans (hb.mono hcl5.size))
          clear hcl5
          go_simp
          go_wp2
          refine (wpIn_wide (n := 0)).1 ?_
          refine wpIn_region_C 100000 (fun _ => True) hmix ?_
          refine flowT_at (k := 37) (fun _ => false) (fun iz vz Wz => match iz with
    | 0 => vz = .agg #[.bool s, .slice A n c]
    | 1 => vz = .agg #[.bool s, .slice A n c]
    | 2 => NV Wz vz (-va)
    | 3 => ISV Wz 60 vz [va, (-va)]
    | 4 => NV Wz vz (va + (-va))
    | 5 => NV Wz vz (0 : Int)
    | 6 => vz = .bool true
    | 7 => vz = .bool true
    | 8 => vz = .agg #[.bool s, .slice A n c]
    | 9 => ISV Wz 60 vz [va]
    | 10 => NV Wz vz va
    | 11 => vz = .agg #[.bool s, .slice A n c]
    | 12 => NV Wz vz va
    | 13 => vz = .bool true
    | 14 => vz = .bool true
    | 15 => vz = .bool true
    | 16 => vz = .agg #[.bool (decide ((va + vb) < 0)), .slice As ns cs]
    | 17 => vz = .agg #[.bool s', .slice A' n' c']
    | 18 => NV Wz vz ((va + vb) - vb)
    | 19 => vz = .agg #[.bool s, .slice A n c]
    | 20 => NV Wz vz va
    | 21 => vz = .bool true
    | 22 => vz = .bool true
    | 23 => vz = .bool true
    | 24 => vz = .agg #[.bool (decide ((va * vb) < 0)), .slice Ap np cp]
    | 25 => vz = .int .i64 (va * vb).sign
    | 26 => vz = .agg #[.bool s, .slice A n c]
    | 27 => vz = .int .i64 va.sign
    | 28 => vz = .agg #[.bool s', .slice A' n' c']
    | 29 => vz = .int .i64 vb.sign
    | 30 => vz = .int .i64 (va.sign * vb.sign)
    | 31 => vz = .bool true
    | 32 => vz = .bool true
    | 33 => vz = .bool true
    | 34 => vz = .bool true
    | 35 => vz = .bool true
    | 36 => vz = .bool true
    | _ => True) (fun W => Below W9.heap.size W9 W) (by kernel_rfl) (by kernel_rfl) (by kernel_rfl) (by kernel_rfl) (by kernel_rfl) (by kernel_rfl) (by kernel_rfl) (by kernel_rfl) (by kernel_rfl) (fun _ _ h hb => h.trans (hb.mono h.size)) ?stab ((Below.refl _ W9).drew) ?spec ?fin
          case stab =>
            intro iz vz Wz Wy h hb
            split at h <;> first | exact h | exact NV.below h hb | exact ISV.below h hb | trivial
          case spec =>
            refine all_lt_succ ?_ ?h36
            refine all_lt_succ ?_ ?h35
            refine all_lt_succ ?_ ?h34
            refine all_lt_succ ?_ ?h33
            refine all_lt_succ ?_ ?h32
            refine all_lt_succ ?_ ?h31
            refine all_lt_succ ?_ ?h30
            refine all_lt_succ ?_ ?h29
            refine all_lt_succ ?_ ?h28
            refine all_lt_succ ?_ ?h27
            refine all_lt_succ ?_ ?h26
            refine all_lt_succ ?_ ?h25
            refine all_lt_succ ?_ ?h24
            refine all_lt_succ ?_ ?h23
            refine all_lt_succ ?_ ?h22
            refine all_lt_succ ?_ ?h21
            refine all_lt_succ ?_ ?h20
            refine all_lt_succ ?_ ?h19
            refine all_lt_succ ?_ ?h18
            refine all_lt_succ ?_ ?h17
            refine all_lt_succ ?_ ?h16
            refine all_lt_succ ?_ ?h15
            refine all_lt_succ ?_ ?h14
            refine all_lt_succ ?_ ?h13
            refine all_lt_succ ?_ ?h12
            refine all_lt_succ ?_ ?h11
            refine all_lt_succ ?_ ?h10
            refine all_lt_succ ?_ ?h9
            refine all_lt_succ ?_ ?h8
            refine all_lt_succ ?_ ?h7
            refine all_lt_succ ?_ ?h6
            refine all_lt_succ ?_ ?h5
            refine all_lt_succ ?_ ?h4
            refine all_lt_succ ?_ ?h3
            refine all_lt_succ ?_ ?h2
            refine all_lt_succ ?_ ?h1
            refine all_lt_succ ?_ ?h0
            exact fun i h _ => absurd h (Nat.not_lt_zero i)
            case h0 =>
              intro _ o hi b5 W5 hf K hK
              cases hi
              have k3 : b5.tmps[3]?.getD undef = .pointer (some ⟨w.heap.size, 0, none⟩) := (Array.getD_eq_getD_getElem? ..).symm.trans ((hf.at_.keep 3 (by kernel_rfl)).trans (by kernel_rfl))
              obtain ⟨⟨⟨q1, q2⟩, ⟨q3, q4⟩, q5, q6⟩, ⟨q7, q8⟩, q9, q10⟩ := cf3 W5 hf.at_.cls
              refine wpOpIn_step rfl (fun K' hK' => ?_)
              go_simp
              exact hK' _ _ (hK _ _ rfl (Below.refl _ _) (fun h => by cases h))
            case h1 =>
              intro _ o hi b5 W5 hf K hK
              cases hi
              have k3 : b5.tmps[3]?.getD undef = .pointer (some ⟨w.heap.size, 0, none⟩) := (Array.getD_eq_getD_getElem? ..).symm.trans ((hf.at_.keep 3 (by kernel_rfl)).trans (by kernel_rfl))
              obtain ⟨⟨⟨q1, q2⟩, ⟨q3, q4⟩, q5, q6⟩, ⟨q7, q8⟩, q9, q10⟩ := cf3 W5 hf.at_.cls
              refine wpOpIn_step rfl (fun K' hK' => ?_)
              go_simp
              exact hK' _ _ (hK _ _ rfl (Below.refl _ _) (fun h => by cases h))
            case h2 =>
              intro _ o hi b5 W5 hf K hK
              cases hi
              have k115 : b5.tmps[115]?.getD undef = .agg #[.bool s, .slice A n c] := (Array.getD_eq_getD_getElem? ..).symm.trans (hf.at_.vals 1 _ 115 ⟨by decide, ⟨1, .data⟩, by simp, by kernel_rfl, rfl⟩ rfl rfl)
              have ct := neg_v (UV.mono (ua W5 (up3 W5 hf.at_.cls)) (m' := 60) (by decide)) (by decide)
              refine wpOpIn_step rfl (fun K' hK' => ?_)
              go_simp
              refine CallsIn.mono (callsIn_wide.2 ct) ?_
              rintro e W' ⟨v, rfl, hv, hb⟩
              exact hK' _ _ (hK _ _ hv hb (fun h => by cases h))
            case h3 =>
              intro _ o hi b5 W5 hf K hK
              cases hi
              have k114 : b5.tmps[114]?.getD undef = .agg #[.bool s, .slice A n c] := (Array.getD_eq_getD_getElem? ..).symm.trans (hf.at_.vals 0 _ 114 ⟨by decide, ⟨0, .data⟩, by simp, by kernel_rfl, rfl⟩ rfl rfl)
              have v116 := hf.at_.vals 2 _ 116 ⟨by decide, ⟨2, .data⟩, by simp, by kernel_rfl, rfl⟩ rfl rfl; rw [Array.getD_eq_getD_getElem?] at v116
              obtain ⟨s116, A116, n116, c116, k116, w116⟩ := NV.open v116 (Bd.neg ba)
              have ct := ISV.two (UV.mono (ua W5 (up3 W5 hf.at_.cls)) (m' := 60) (by decide)) w116 25
              refine wpOpIn_step rfl (fun K' hK' => ?_)
              go_simp
              exact hK' _ _ (hK _ _ ct ((Below.refl _ W5).alloc (Nat.le_refl _) _) (fun h => by cases h))
            case h4 =>
              intro _ o hi b5 W5 hf K hK
              cases hi
              have v117 := hf.at_.vals 3 _ 117 ⟨by decide, ⟨3, .data⟩, by simp, by kernel_rfl, rfl⟩ rfl rfl; rw [Array.getD_eq_getD_getElem?] at v117
              have ct := add_w (k := (va + (-va))) v117 (by decide) (by simp) (by simp)
              refine wpOpIn_step rfl (fun K' hK' => ?_)
              go_simp
              refine CallsIn.mono (callsIn_wide.2 ct) ?_
              rintro e W' ⟨v, rfl, hv, hb⟩
              exact hK' _ _ (hK _ _ hv hb (fun h => by cases h))
            case h5 =>
              intro _ o hi b5 W5 hf K hK
              cases hi
              have ct := add_w (k := (0 : Int)) (ISV.nil (m := 60) W5) (by decide) (by simp) (by simp)
              refine wpOpIn_step rfl (fun K' hK' => ?_)
              go_simp
              refine CallsIn.mono (callsIn_wide.2 ct) ?_
              rintro e W' ⟨v, rfl, hv, hb⟩
              exact hK' _ _ (hK _ _ hv hb (fun h => by cases h))
            case h6 =>
              intro _ o hi b5 W5 hf K hK
              cases hi
              have v118 := hf.at_.vals 4 _ 118 ⟨by decide, ⟨4, .data⟩, by simp, by kernel_rfl, rfl⟩ rfl rfl; rw [Array.getD_eq_getD_getElem?] at v118
              have v119 := hf.at_.vals 5 _ 119 ⟨by decide, ⟨5, .data⟩, by simp, by kernel_rfl, rfl⟩ rfl rfl; rw [Array.getD_eq_getD_getElem?] at v119
              have ct := lawsame_t v118 v119 (show (va + (-va)) = (0 : Int) from by grind)
              refine wpOpIn_step rfl (fun K' hK' => ?_)
              go_simp
              refine CallsIn.mono (callsIn_wide.2 ct) ?_
              rintro e W' ⟨rfl, hb⟩
              exact hK' _ _ (hK _ _ rfl hb (fun h => by cases h))
            case h7 =>
              intro _ o hi b5 W5 hf K hK
              cases hi
              have k120 : b5.tmps[120]?.getD undef = .bool true := (Array.getD_eq_getD_getElem? ..).symm.trans (hf.at_.vals 6 _ 120 ⟨by decide, ⟨6, .data⟩, by simp, by kernel_rfl, rfl⟩ rfl rfl)
              refine wpOpIn_step rfl (fun K' hK' => ?_)
              go_simp
              exact hK' _ _ (hK _ _ rfl (Below.refl _ _) (fun h => by cases h))
            case h8 =>
              intro _ o hi b5 W5 hf K hK
              cases hi
              have k121 : b5.tmps[121]?.getD undef = .bool true := (Array.getD_eq_getD_getElem? ..).symm.trans (hf.at_.vals 7 _ 121 ⟨by decide, ⟨7, .guard⟩, by simp, by kernel_rfl, rfl⟩ rfl rfl)
              have g121 := some_bool k121
              have k3 : b5.tmps[3]?.getD undef = .pointer (some ⟨w.heap.size, 0, none⟩) := (Array.getD_eq_getD_getElem? ..).symm.trans ((hf.at_.keep 3 (by kernel_rfl)).trans (by kernel_rfl))
              obtain ⟨⟨⟨q1, q2⟩, ⟨q3, q4⟩, q5, q6⟩, ⟨q7, q8⟩, q9, q10⟩ := cf3 W5 hf.at_.cls
              refine wpOpIn_step rfl (fun K' hK' => ?_)
              go_simp
              exact hK' _ _ (hK _ _ rfl (Below.refl _ _) (fun h => by cases h))
            case h9 =>
              intro _ o hi b5 W5 hf K hK
              cases hi
              have k121 : b5.tmps[121]?.getD undef = .bool true := (Array.getD_eq_getD_getElem? ..).symm.trans (hf.at_.vals 7 _ 121 ⟨by decide, ⟨7, .guard⟩, by simp, by kernel_rfl, rfl⟩ rfl rfl)
              have g121 := some_bool k121
              have k122 : b5.tmps[122]?.getD undef = .agg #[.bool s, .slice A n c] := (Array.getD_eq_getD_getElem? ..).symm.trans (hf.at_.vals 8 _ 122 ⟨by decide, ⟨8, .data⟩, by simp, by kernel_rfl, rfl⟩ rfl rfl)
              have ct := ISV.one (UV.mono (ua W5 (up3 W5 hf.at_.cls)) (m' := 60) (by decide)) 25
              refine wpOpIn_step rfl (fun K' hK' => ?_)
              go_simp
              exact hK' _ _ (hK _ _ ct ((Below.refl _ W5).alloc (Nat.le_refl _) _) (fun h => by cases h))
            case h10 =>
              intro _ o hi b5 W5 hf K hK
              cases hi
              have k121 : b5.tmps[121]?.getD undef = .bool true := (Array.getD_eq_getD_getElem? ..).symm.trans (hf.at_.vals 7 _ 121 ⟨by decide, ⟨7, .chain⟩, by simp, by kernel_rfl, rfl⟩ rfl rfl)
              have g121 := some_bool k121
              have v123 := hf.at_.vals 9 _ 123 ⟨by decide, ⟨9, .data⟩, by simp, by kernel_rfl, rfl⟩ rfl rfl; rw [Array.getD_eq_getD_getElem?] at v123
              have ct := mul_w (k := va) v123 (by simp) (by simp) (by simp)
              refine wpOpIn_step rfl (fun K' hK' => ?_)
              go_simp
              refine CallsIn.mono (callsIn_wide.2 ct) ?_
              rintro e W' ⟨v, rfl, hv, hb⟩
              exact hK' _ _ (hK _ _ hv hb (fun h => by cases h))
            case h11 =>
              intro _ o hi b5 W5 hf K hK
              cases hi
              have k121 : b5.tmps[121]?.getD undef = .bool true := (Array.getD_eq_getD_getElem? ..).symm.trans (hf.at_.vals 7 _ 121 ⟨by decide, ⟨7, .guard⟩, by simp, by kernel_rfl, rfl⟩ rfl rfl)
              have g121 := some_bool k121
              have k3 : b5.tmps[3]?.getD undef = .pointer (some ⟨w.heap.size, 0, none⟩) := (Array.getD_eq_getD_getElem? ..).symm.trans ((hf.at_.keep 3 (by kernel_rfl)).trans (by kernel_rfl))
              obtain ⟨⟨⟨q1, q2⟩, ⟨q3, q4⟩, q5, q6⟩, ⟨q7, q8⟩, q9, q10⟩ := cf3 W5 hf.at_.cls
              refine wpOpIn_step rfl (fun K' hK' => ?_)
              go_simp
              exact hK' _ _ (hK _ _ rfl (Below.refl _ _) (fun h => by cases h))
            case h12 =>
              intro _ o hi b5 W5 hf K hK
              cases hi
              have k121 : b5.tmps[121]?.getD undef = .bool true := (Array.getD_eq_getD_getElem? ..).symm.trans (hf.at_.vals 7 _ 121 ⟨by decide, ⟨7, .guard⟩, by simp, by kernel_rfl, rfl⟩ rfl rfl)
              have g121 := some_bool k121
              have k125 : b5.tmps[125]?.getD undef = .agg #[.bool s, .slice A n c] := (Array.getD_eq_getD_getElem? ..).symm.trans (hf.at_.vals 11 _ 125 ⟨by decide, ⟨11, .data⟩, by simp, by kernel_rfl, rfl⟩ rfl rfl)
              have ct := norm_v (UV.mono (ua W5 (up3 W5 hf.at_.cls)) (m' := 60) (by decide)) (by decide)
              refine wpOpIn_step rfl (fun K' hK' => ?_)
              go_simp
              refine CallsIn.mono (callsIn_wide.2 ct) ?_
              rintro e W' ⟨v, rfl, hv, hb⟩
              exact hK' _ _ (hK _ _ hv hb (fun h => by cases h))
            case h13 =>
              intro _ o hi b5 W5 hf K hK
              cases hi
              have k121 : b5.tmps[121]?.getD undef = .bool true := (Array.getD_eq_getD_getElem? ..).symm.trans (hf.at_.vals 7 _ 121 ⟨by decide, ⟨7, .guard⟩, by simp, by kernel_rfl, rfl⟩ rfl rfl)
              have g121 := some_bool k121
              have v124 := hf.at_.vals 10 _ 124 ⟨by decide, ⟨10, .data⟩, by simp, by kernel_rfl, rfl⟩ rfl rfl; rw [Array.getD_eq_getD_getElem?] at v124
              have v126 := hf.at_.vals 12 _ 126 ⟨by decide, ⟨12, .data⟩, by simp, by kernel_rfl, rfl⟩ rfl rfl; rw [Array.getD_eq_getD_getElem?] at v126
              have ct := lawsame_t v124 v126 (show va = va from by grind)
              refine wpOpIn_step rfl (fun K' hK' => ?_)
              go_simp
              refine CallsIn.mono (callsIn_wide.2 ct) ?_
              rintro e W' ⟨rfl, hb⟩
              exact hK' _ _ (hK _ _ rfl hb (fun h => by cases h))
            case h14 =>
              intro _ o hi b5 W5 hf K hK
              cases hi
              have k121 : b5.tmps[121]?.getD undef = .bool true := (Array.getD_eq_getD_getElem? ..).symm.trans (hf.at_.vals 7 _ 121 ⟨by decide, ⟨7, .data⟩, by simp, by kernel_rfl, rfl⟩ rfl rfl)
              have k127 : b5.tmps[127]?.getD undef = .bool true := (Array.getD_eq_getD_getElem? ..).symm.trans (hf.at_.vals 13 _ 127 ⟨by decide, ⟨13, .data⟩, by simp, by kernel_rfl, rfl⟩ rfl rfl)
              refine wpOpIn_step rfl (fun K' hK' => ?_)
              go_simp
              exact hK' _ _ (hK _ _ rfl (Below.refl _ _) (fun h => by cases h))
            case h15 =>
              intro _ o hi b5 W5 hf K hK
              cases hi
              have k128 : b5.tmps[128]?.getD undef = .bool true := (Array.getD_eq_getD_getElem? ..).symm.trans (hf.at_.vals 14 _ 128 ⟨by decide, ⟨14, .data⟩, by simp, by kernel_rfl, rfl⟩ rfl rfl)
              refine wpOpIn_step rfl (fun K' hK' => ?_)
              go_simp
              exact hK' _ _ (hK _ _ rfl (Below.refl _ _) (fun h => by cases h))
            case h16 =>
              intro _ o hi b5 W5 hf K hK
              cases hi
              have k129 : b5.tmps[129]?.getD undef = .bool true := (Array.getD_eq_getD_getElem? ..).symm.trans (hf.at_.vals 15 _ 129 ⟨by decide, ⟨15, .guard⟩, by simp, by kernel_rfl, rfl⟩ rfl rfl)
              have g129 := some_bool k129
              have k7 : b5.tmps[7]?.getD undef = .pointer (some ⟨B7, 0, none⟩) := (Array.getD_eq_getD_getElem? ..).symm.trans ((hf.at_.keep 7 (by kernel_rfl)).trans (by kernel_rfl))
              obtain ⟨⟨⟨q1, q2⟩, ⟨q3, q4⟩, q5, q6⟩, ⟨q7, q8⟩, q9, q10⟩ := cf3 W5 hf.at_.cls
              refine wpOpIn_step rfl (fun K' hK' => ?_)
              go_simp
              exact hK' _ _ (hK _ _ rfl (Below.refl _ _) (fun h => by cases h))
            case h17 =>
              intro _ o hi b5 W5 hf K hK
              cases hi
              have k129 : b5.tmps[129]?.getD undef = .bool true := (Array.getD_eq_getD_getElem? ..).symm.trans (hf.at_.vals 15 _ 129 ⟨by decide, ⟨15, .guard⟩, by simp, by kernel_rfl, rfl⟩ rfl rfl)
              have g129 := some_bool k129
              have k4 : b5.tmps[4]?.getD undef = .pointer (some ⟨w.heap.size + 1, 0, none⟩) := (Array.getD_eq_getD_getElem? ..).symm.trans ((hf.at_.keep 4 (by kernel_rfl)).trans (by kernel_rfl))
              obtain ⟨⟨⟨q1, q2⟩, ⟨q3, q4⟩, q5, q6⟩, ⟨q7, q8⟩, q9, q10⟩ := cf3 W5 hf.at_.cls
              refine wpOpIn_step rfl (fun K' hK' => ?_)
              go_simp
              exact hK' _ _ (hK _ _ rfl (Below.refl _ _) (fun h => by cases h))
            case h18 =>
              intro _ o hi b5 W5 hf K hK
              cases hi
              have k129 : b5.tmps[129]?.getD undef = .bool true := (Array.getD_eq_getD_getElem? ..).symm.trans (hf.at_.vals 15 _ 129 ⟨by decide, ⟨15, .chain⟩, by simp, by kernel_rfl, rfl⟩ rfl rfl)
              have g129 := some_bool k129
              have k130 : b5.tmps[130]?.getD undef = .agg #[.bool (decide ((va + vb) < 0)), .slice As ns cs] := (Array.getD_eq_getD_getElem? ..).symm.trans (hf.at_.vals 16 _ 130 ⟨by decide, ⟨16, .data⟩, by simp, by kernel_rfl, rfl⟩ rfl rfl)
              have k131 : b5.tmps[131]?.getD undef = .agg #[.bool s', .slice A' n' c'] := (Array.getD_eq_getD_getElem? ..).symm.trans (hf.at_.vals 17 _ 131 ⟨by decide, ⟨17, .data⟩, by simp, by kernel_rfl, rfl⟩ rfl rfl)
              have ct := sub_v (NV.uv' (nvs W5 (dn3 W5 hf.at_.cls)) (Bd.add ba bb)) (UV.mono (ub W5 (up3 W5 hf.at_.cls)) (m' := 61) (by decide)) (by decide)
              refine wpOpIn_step rfl (fun K' hK' => ?_)
              go_simp
              refine CallsIn.mono (callsIn_wide.2 ct) ?_
              rintro e W' ⟨v, rfl, hv, hb⟩
              exact hK' _ _ (hK _ _ hv hb (fun h => by cases h))
            case h19 =>
              intro _ o hi b5 W5 hf K hK
              cases hi
              have k129 : b5.tmps[129]?.getD undef = .bool true := (Array.getD_eq_getD_getElem? ..).symm.trans (hf.at_.vals 15 _ 129 ⟨by decide, ⟨15, .guard⟩, by simp, by kernel_rfl, rfl⟩ rfl rfl)
              have g129 := some_bool k129
              have k3 : b5.tmps[3]?.getD undef = .pointer (some ⟨w.heap.size, 0, none⟩) := (Array.getD_eq_getD_getElem? ..).symm.trans ((hf.at_.keep 3 (by kernel_rfl)).trans (by kernel_rfl))
              obtain ⟨⟨⟨q1, q2⟩, ⟨q3, q4⟩, q5, q6⟩, ⟨q7, q8⟩, q9, q10⟩ := cf3 W5 hf.at_.cls
              refine wpOpIn_step rfl (fun K' hK' => ?_)
              go_simp
              exact hK' _ _ (hK _ _ rfl (Below.refl _ _) (fun h => by cases h))
            case h20 =>
              intro _ o hi b5 W5 hf K hK
              cases hi
              have k129 : b5.tmps[129]?.getD undef = .bool true := (Array.getD_eq_getD_getElem? ..).symm.trans (hf.at_.vals 15 _ 129 ⟨by decide, ⟨15, .guard⟩, by simp, by kernel_rfl, rfl⟩ rfl rfl)
              have g129 := some_bool k129
              have k133 : b5.tmps[133]?.getD undef = .agg #[.bool s, .slice A n c] := (Array.getD_eq_getD_getElem? ..).symm.trans (hf.at_.vals 19 _ 133 ⟨by decide, ⟨19, .data⟩, by simp, by kernel_rfl, rfl⟩ rfl rfl)
              have ct := norm_v (UV.mono (ua W5 (up3 W5 hf.at_.cls)) (m' := 60) (by decide)) (by decide)
              refine wpOpIn_step rfl (fun K' hK' => ?_)
              go_simp
              refine CallsIn.mono (callsIn_wide.2 ct) ?_
              rintro e W' ⟨v, rfl, hv, hb⟩
              exact hK' _ _ (hK _ _ hv hb (fun h => by cases h))
            case h21 =>
              intro _ o hi b5 W5 hf K hK
              cases hi
              have k129 : b5.tmps[129]?.getD undef = .bool true := (Array.getD_eq_getD_getElem? ..).symm.trans (hf.at_.vals 15 _ 129 ⟨by decide, ⟨15, .guard⟩, by simp, by kernel_rfl, rfl⟩ rfl rfl)
              have g129 := some_bool k129
              have v132 := hf.at_.vals 18 _ 132 ⟨by decide, ⟨18, .data⟩, by simp, by kernel_rfl, rfl⟩ rfl rfl; rw [Array.getD_eq_getD_getElem?] at v132
              have v134 := hf.at_.vals 20 _ 134 ⟨by decide, ⟨20, .data⟩, by simp, by kernel_rfl, rfl⟩ rfl rfl; rw [Array.getD_eq_getD_getElem?] at v134
              have ct := lawsame_t v132 v134 (show ((va + vb) - vb) = va from by grind)
              refine wpOpIn_step rfl (fun K' hK' => ?_)
              go_simp
              refine CallsIn.mono (callsIn_wide.2 ct) ?_
              rintro e W' ⟨rfl, hb⟩
              exact hK' _ _ (hK _ _ rfl hb (fun h => by cases h))
            case h22 =>
              intro _ o hi b5 W5 hf K hK
              cases hi
              have k129 : b5.tmps[129]?.getD undef = .bool true := (Array.getD_eq_getD_getElem? ..).symm.trans (hf.at_.vals 15 _ 129 ⟨by decide, ⟨15, .data⟩, by simp, by kernel_rfl, rfl⟩ rfl rfl)
              have k135 : b5.tmps[135]?.getD undef = .bool true := (Array.getD_eq_getD_getElem? ..).symm.trans (hf.at_.vals 21 _ 135 ⟨by decide, ⟨21, .data⟩, by simp, by kernel_rfl, rfl⟩ rfl rfl)
              refine wpOpIn_step rfl (fun K' hK' => ?_)
              go_simp
              exact hK' _ _ (hK _ _ rfl (Below.refl _ _) (fun h => by cases h))
            case h23 =>
              intro _ o hi b5 W5 hf K hK
              cases hi
              have k136 : b5.tmps[136]?.getD undef = .bool true := (Array.getD_eq_getD_getElem? ..).symm.trans (hf.at_.vals 22 _ 136 ⟨by decide, ⟨22, .data⟩, by simp, by kernel_rfl, rfl⟩ rfl rfl)
              refine wpOpIn_step rfl (fun K' hK' => ?_)
              go_simp
              exact hK' _ _ (hK _ _ rfl (Below.refl _ _) (fun h => by cases h))
            case h24 =>
              intro _ o hi b5 W5 hf K hK
              cases hi
              have k137 : b5.tmps[137]?.getD undef = .bool true := (Array.getD_eq_getD_getElem? ..).symm.trans (hf.at_.vals 23 _ 137 ⟨by decide, ⟨23, .guard⟩, by simp, by kernel_rfl, rfl⟩ rfl rfl)
              have g137 := some_bool k137
              have k8 : b5.tmps[8]?.getD undef = .pointer (some ⟨B8, 0, none⟩) := (Array.getD_eq_getD_getElem? ..).symm.trans ((hf.at_.keep 8 (by kernel_rfl)).trans (by kernel_rfl))
              obtain ⟨⟨⟨q1, q2⟩, ⟨q3, q4⟩, q5, q6⟩, ⟨q7, q8⟩, q9, q10⟩ := cf3 W5 hf.at_.cls
              refine wpOpIn_step rfl (fun K' hK' => ?_)
              go_simp
              exact hK' _ _ (hK _ _ rfl (Below.refl _ _) (fun h => by cases h))
            case h25 =>
              intro _ o hi b5 W5 hf K hK
              cases hi
              have k137 : b5.tmps[137]?.getD undef = .bool true := (Array.getD_eq_getD_getElem? ..).symm.trans (hf.at_.vals 23 _ 137 ⟨by decide, ⟨23, .chain⟩, by simp, by kernel_rfl, rfl⟩ rfl rfl)
              have g137 := some_bool k137
              have k138 : b5.tmps[138]?.getD undef = .agg #[.bool (decide ((va * vb) < 0)), .slice Ap np cp] := (Array.getD_eq_getD_getElem? ..).symm.trans (hf.at_.vals 24 _ 138 ⟨by decide, ⟨24, .data⟩, by simp, by kernel_rfl, rfl⟩ rfl rfl)
              have ct := sign_v (NV.uv' (nvp W5 (dn3 W5 hf.at_.cls)) (Bd.mul ba bb)) (by decide)
              refine wpOpIn_step rfl (fun K' hK' => ?_)
              go_simp
              refine CallsIn.mono (callsIn_wide.2 ct) ?_
              rintro e W' ⟨rfl, hb⟩
              exact hK' _ _ (hK _ _ rfl hb (fun h => by cases h))
            case h26 =>
              intro _ o hi b5 W5 hf K hK
              cases hi
              have k137 : b5.tmps[137]?.getD undef = .bool true := (Array.getD_eq_getD_getElem? ..).symm.trans (hf.at_.vals 23 _ 137 ⟨by decide, ⟨23, .guard⟩, by simp, by kernel_rfl, rfl⟩ rfl rfl)
              have g137 := some_bool k137
              have k3 : b5.tmps[3]?.getD undef = .pointer (some ⟨w.heap.size, 0, none⟩) := (Array.getD_eq_getD_getElem? ..).symm.trans ((hf.at_.keep 3 (by kernel_rfl)).trans (by kernel_rfl))
              obtain ⟨⟨⟨q1, q2⟩, ⟨q3, q4⟩, q5, q6⟩, ⟨q7, q8⟩, q9, q10⟩ := cf3 W5 hf.at_.cls
              refine wpOpIn_step rfl (fun K' hK' => ?_)
              go_simp
              exact hK' _ _ (hK _ _ rfl (Below.refl _ _) (fun h => by cases h))
            case h27 =>
              intro _ o hi b5 W5 hf K hK
              cases hi
              have k137 : b5.tmps[137]?.getD undef = .bool true := (Array.getD_eq_getD_getElem? ..).symm.trans (hf.at_.vals 23 _ 137 ⟨by decide, ⟨23, .guard⟩, by simp, by kernel_rfl, rfl⟩ rfl rfl)
              have g137 := some_bool k137
              have k140 : b5.tmps[140]?.getD undef = .agg #[.bool s, .slice A n c] := (Array.getD_eq_getD_getElem? ..).symm.trans (hf.at_.vals 26 _ 140 ⟨by decide, ⟨26, .data⟩, by simp, by kernel_rfl, rfl⟩ rfl rfl)
              have ct := sign_v (UV.mono (ua W5 (up3 W5 hf.at_.cls)) (m' := 60) (by decide)) (by decide)
              refine wpOpIn_step rfl (fun K' hK' => ?_)
              go_simp
              refine CallsIn.mono (callsIn_wide.2 ct) ?_
              rintro e W' ⟨rfl, hb⟩
              exact hK' _ _ (hK _ _ rfl hb (fun h => by cases h))
            case h28 =>
              intro _ o hi b5 W5 hf K hK
              cases hi
              have k137 : b5.tmps[137]?.getD undef = .bool true := (Array.getD_eq_getD_getElem? ..).symm.trans (hf.at_.vals 23 _ 137 ⟨by decide, ⟨23, .guard⟩, by simp, by kernel_rfl, rfl⟩ rfl rfl)
              have g137 := some_bool k137
              have k4 : b5.tmps[4]?.getD undef = .pointer (some ⟨w.heap.size + 1, 0, none⟩) := (Array.getD_eq_getD_getElem? ..).symm.trans ((hf.at_.keep 4 (by kernel_rfl)).trans (by kernel_rfl))
              obtain ⟨⟨⟨q1, q2⟩, ⟨q3, q4⟩, q5, q6⟩, ⟨q7, q8⟩, q9, q10⟩ := cf3 W5 hf.at_.cls
              refine wpOpIn_step rfl (fun K' hK' => ?_)
              go_simp
              exact hK' _ _ (hK _ _ rfl (Below.refl _ _) (fun h => by cases h))
            case h29 =>
              intro _ o hi b5 W5 hf K hK
              cases hi
              have k137 : b5.tmps[137]?.getD undef = .bool true := (Array.getD_eq_getD_getElem? ..).symm.trans (hf.at_.vals 23 _ 137 ⟨by decide, ⟨23, .guard⟩, by simp, by kernel_rfl, rfl⟩ rfl rfl)
              have g137 := some_bool k137
              have k142 : b5.tmps[142]?.getD undef = .agg #[.bool s', .slice A' n' c'] := (Array.getD_eq_getD_getElem? ..).symm.trans (hf.at_.vals 28 _ 142 ⟨by decide, ⟨28, .data⟩, by simp, by kernel_rfl, rfl⟩ rfl rfl)
              have ct := sign_v (UV.mono (ub W5 (up3 W5 hf.at_.cls)) (m' := 60) (by decide)) (by decide)
              refine wpOpIn_step rfl (fun K' hK' => ?_)
              go_simp
              refine CallsIn.mono (callsIn_wide.2 ct) ?_
              rintro e W' ⟨rfl, hb⟩
              exact hK' _ _ (hK _ _ rfl hb (fun h => by cases h))
            case h30 =>
              intro _ o hi b5 W5 hf K hK
              cases hi
              have k137 : b5.tmps[137]?.getD undef = .bool true := (Array.getD_eq_getD_getElem? ..).symm.trans (hf.at_.vals 23 _ 137 ⟨by decide, ⟨23, .guard⟩, by simp, by kernel_rfl, rfl⟩ rfl rfl)
              have g137 := some_bool k137
              have k141 : b5.tmps[141]?.getD undef = .int .i64 va.sign := (Array.getD_eq_getD_getElem? ..).symm.trans (hf.at_.vals 27 _ 141 ⟨by decide, ⟨27, .data⟩, by simp, by kernel_rfl, rfl⟩ rfl rfl)
              have k143 : b5.tmps[143]?.getD undef = .int .i64 vb.sign := (Array.getD_eq_getD_getElem? ..).symm.trans (hf.at_.vals 29 _ 143 ⟨by decide, ⟨29, .data⟩, by simp, by kernel_rfl, rfl⟩ rfl rfl)
              refine wpOpIn_step rfl (fun K' hK' => ?_)
              go_simp
              rw [sign_wrap]
              exact hK' _ _ (hK _ _ rfl (Below.refl _ _) (fun h => by cases h))
            case h31 =>
              intro _ o hi b5 W5 hf K hK
              cases hi
              have k137 : b5.tmps[137]?.getD undef = .bool true := (Array.getD_eq_getD_getElem? ..).symm.trans (hf.at_.vals 23 _ 137 ⟨by decide, ⟨23, .guard⟩, by simp, by kernel_rfl, rfl⟩ rfl rfl)
              have g137 := some_bool k137
              have k139 : b5.tmps[139]?.getD undef = .int .i64 (va * vb).sign := (Array.getD_eq_getD_getElem? ..).symm.trans (hf.at_.vals 25 _ 139 ⟨by decide, ⟨25, .data⟩, by simp, by kernel_rfl, rfl⟩ rfl rfl)
              have k144 : b5.tmps[144]?.getD undef = .int .i64 (va.sign * vb.sign) := (Array.getD_eq_getD_getElem? ..).symm.trans (hf.at_.vals 30 _ 144 ⟨by decide, ⟨30, .data⟩, by simp, by kernel_rfl, rfl⟩ rfl rfl)
              refine wpOpIn_step rfl (fun K' hK' => ?_)
              go_simp
              exact hK' _ _ (hK _ _ rfl (Below.refl _ _) (fun h => by cases h))
            case h32 =>
              intro _ o hi b5 W5 hf K hK
              cases hi
              have k137 : b5.tmps[137]?.getD undef = .bool true := (Array.getD_eq_getD_getElem? ..).symm.trans (hf.at_.vals 23 _ 137 ⟨by decide, ⟨23, .data⟩, by simp, by kernel_rfl, rfl⟩ rfl rfl)
              have k145 : b5.tmps[145]?.getD undef = .bool true := (Array.getD_eq_getD_getElem? ..).symm.trans (hf.at_.vals 31 _ 145 ⟨by decide, ⟨31, .data⟩, by simp, by kernel_rfl, rfl⟩ rfl rfl)
              refine wpOpIn_step rfl (fun K' hK' => ?_)
              go_simp
              exact hK' _ _ (hK _ _ rfl (Below.refl _ _) (fun h => by cases h))
            case h33 =>
              intro _ o hi b5 W5 hf K hK
              cases hi
              have k146 : b5.tmps[146]?.getD undef = .bool true := (Array.getD_eq_getD_getElem? ..).symm.trans (hf.at_.vals 32 _ 146 ⟨by decide, ⟨32, .data⟩, by simp, by kernel_rfl, rfl⟩ rfl rfl)
              refine wpOpIn_step rfl (fun K' hK' => ?_)
              go_simp
              exact hK' _ _ (hK _ _ rfl (Below.refl _ _) (fun h => by cases h))
            case h34 =>
              intro _ o hi b5 W5 hf K hK
              cases hi
              have k147 : b5.tmps[147]?.getD undef = .bool true := (Array.getD_eq_getD_getElem? ..).symm.trans (hf.at_.vals 33 _ 147 ⟨by decide, ⟨33, .chain⟩, by simp, by kernel_rfl, rfl⟩ rfl rfl)
              have g147 := some_bool k147
              have ct := wakes_any W5
              refine wpOpIn_step rfl (fun K' hK' => ?_)
              go_simp
              refine CallsIn.mono (callsIn_wide.2 ct) ?_
              rintro e W' ⟨rfl, hb⟩
              exact hK' _ _ (hK _ _ rfl hb (fun h => by cases h))
            case h35 =>
              intro _ o hi b5 W5 hf K hK
              cases hi
              have k147 : b5.tmps[147]?.getD undef = .bool true := (Array.getD_eq_getD_getElem? ..).symm.trans (hf.at_.vals 33 _ 147 ⟨by decide, ⟨33, .data⟩, by simp, by kernel_rfl, rfl⟩ rfl rfl)
              have k148 : b5.tmps[148]?.getD undef = .bool true := (Array.getD_eq_getD_getElem? ..).symm.trans (hf.at_.vals 34 _ 148 ⟨by decide, ⟨34, .data⟩, by simp, by kernel_rfl, rfl⟩ rfl rfl)
              refine wpOpIn_step rfl (fun K' hK' => ?_)
              go_simp
              exact hK' _ _ (hK _ _ rfl (Below.refl _ _) (fun h => by cases h))
            case h36 =>
              intro _ o hi b5 W5 hf K hK
              cases hi
              have k149 : b5.tmps[149]?.getD undef = .bool true := (Array.getD_eq_getD_getElem? ..).symm.trans (hf.at_.vals 35 _ 149 ⟨by decide, ⟨35, .data⟩, by simp, by kernel_rfl, rfl⟩ rfl rfl)
              refine wpOpIn_step rfl (fun K' hK' => ?_)
              go_simp
              exact hK' _ _ (hK _ _ rfl (Below.refl _ _) (fun h => by cases h))
          case fin =>
            intro b5 Wz hf
            have e6 : b5.tmps.getD 6 undef = .bool true := hf.at_.vals 36 _ 6 ⟨by decide, by decide⟩ rfl rfl
            have hE := frame_eq [114, 115, 116, 117, 118, 119, 120, 121, 122, 123, 124, 125, 126, 127, 128, 129, 130, 131, 132, 133, 134, 135, 136, 137, 138, 139, 140, 141, 142, 143, 144, 145, 146, 147, 148, 149, 6] hf.at_.size (fun t ht5 => hf.at_.keep t (not_dst (by rw [show dstList _ _ = [114, 115, 116, 117, 118, 119, 120, 121, 122, 123, 124, 125, 126, 127, 128, 129, 130, 131, 132, 133, 134, 135, 136, 137, 138, 139, 140, 141, 142, 143, 144, 145, 146, 147, 148, 149, 6] from by kernel_rfl]; exact ht5)))
            have hcl5 := hf.at_.cls
            obtain ⟨tm, df⟩ := b5
            obtain rfl : df = _ := hf.at_.defers
            clear hf
            simp only [List.foldl_cons, List.foldl_nil] at hE
            rw [show tm.getD 6 undef = _ from e6] at hE; clear e6
            obtain ⟨u114, hu114⟩ : ∃ x, tm.getD 114 undef = x := ⟨_, rfl⟩; rw [hu114] at hE; clear hu114
            obtain ⟨u115, hu115⟩ : ∃ x, tm.getD 115 undef = x := ⟨_, rfl⟩; rw [hu115] at hE; clear hu115
            obtain ⟨u116, hu116⟩ : ∃ x, tm.getD 116 undef = x := ⟨_, rfl⟩; rw [hu116] at hE; clear hu116
            obtain ⟨u117, hu117⟩ : ∃ x, tm.getD 117 undef = x := ⟨_, rfl⟩; rw [hu117] at hE; clear hu117
            obtain ⟨u118, hu118⟩ : ∃ x, tm.getD 118 undef = x := ⟨_, rfl⟩; rw [hu118] at hE; clear hu118
            obtain ⟨u119, hu119⟩ : ∃ x, tm.getD 119 undef = x := ⟨_, rfl⟩; rw [hu119] at hE; clear hu119
            obtain ⟨u120, hu120⟩ : ∃ x, tm.getD 120 undef = x := ⟨_, rfl⟩; rw [hu120] at hE; clear hu120
            obtain ⟨u121, hu121⟩ : ∃ x, tm.getD 121 undef = x := ⟨_, rfl⟩; rw [hu121] at hE; clear hu121
            obtain ⟨u122, hu122⟩ : ∃ x, tm.getD 122 undef = x := ⟨_, rfl⟩; rw [hu122] at hE; clear hu122
            obtain ⟨u123, hu123⟩ : ∃ x, tm.getD 123 undef = x := ⟨_, rfl⟩; rw [hu123] at hE; clear hu123
            obtain ⟨u124, hu124⟩ : ∃ x, tm.getD 124 undef = x := ⟨_, rfl⟩; rw [hu124] at hE; clear hu124
            obtain ⟨u125, hu125⟩ : ∃ x, tm.getD 125 undef = x := ⟨_, rfl⟩; rw [hu125] at hE; clear hu125
            obtain ⟨u126, hu126⟩ : ∃ x, tm.getD 126 undef = x := ⟨_, rfl⟩; rw [hu126] at hE; clear hu126
            obtain ⟨u127, hu127⟩ : ∃ x, tm.getD 127 undef = x := ⟨_, rfl⟩; rw [hu127] at hE; clear hu127
            obtain ⟨u128, hu128⟩ : ∃ x, tm.getD 128 undef = x := ⟨_, rfl⟩; rw [hu128] at hE; clear hu128
            obtain ⟨u129, hu129⟩ : ∃ x, tm.getD 129 undef = x := ⟨_, rfl⟩; rw [hu129] at hE; clear hu129
            obtain ⟨u130, hu130⟩ : ∃ x, tm.getD 130 undef = x := ⟨_, rfl⟩; rw [hu130] at hE; clear hu130
            obtain ⟨u131, hu131⟩ : ∃ x, tm.getD 131 undef = x := ⟨_, rfl⟩; rw [hu131] at hE; clear hu131
            obtain ⟨u132, hu132⟩ : ∃ x, tm.getD 132 undef = x := ⟨_, rfl⟩; rw [hu132] at hE; clear hu132
            obtain ⟨u133, hu133⟩ : ∃ x, tm.getD 133 undef = x := ⟨_, rfl⟩; rw [hu133] at hE; clear hu133
            obtain ⟨u134, hu134⟩ : ∃ x, tm.getD 134 undef = x := ⟨_, rfl⟩; rw [hu134] at hE; clear hu134
            obtain ⟨u135, hu135⟩ : ∃ x, tm.getD 135 undef = x := ⟨_, rfl⟩; rw [hu135] at hE; clear hu135
            obtain ⟨u136, hu136⟩ : ∃ x, tm.getD 136 undef = x := ⟨_, rfl⟩; rw [hu136] at hE; clear hu136
            obtain ⟨u137, hu137⟩ : ∃ x, tm.getD 137 undef = x := ⟨_, rfl⟩; rw [hu137] at hE; clear hu137
            obtain ⟨u138, hu138⟩ : ∃ x, tm.getD 138 undef = x := ⟨_, rfl⟩; rw [hu138] at hE; clear hu138
            obtain ⟨u139, hu139⟩ : ∃ x, tm.getD 139 undef = x := ⟨_, rfl⟩; rw [hu139] at hE; clear hu139
            obtain ⟨u140, hu140⟩ : ∃ x, tm.getD 140 undef = x := ⟨_, rfl⟩; rw [hu140] at hE; clear hu140
            obtain ⟨u141, hu141⟩ : ∃ x, tm.getD 141 undef = x := ⟨_, rfl⟩; rw [hu141] at hE; clear hu141
            obtain ⟨u142, hu142⟩ : ∃ x, tm.getD 142 undef = x := ⟨_, rfl⟩; rw [hu142] at hE; clear hu142
            obtain ⟨u143, hu143⟩ : ∃ x, tm.getD 143 undef = x := ⟨_, rfl⟩; rw [hu143] at hE; clear hu143
            obtain ⟨u144, hu144⟩ : ∃ x, tm.getD 144 undef = x := ⟨_, rfl⟩; rw [hu144] at hE; clear hu144
            obtain ⟨u145, hu145⟩ : ∃ x, tm.getD 145 undef = x := ⟨_, rfl⟩; rw [hu145] at hE; clear hu145
            obtain ⟨u146, hu146⟩ : ∃ x, tm.getD 146 undef = x := ⟨_, rfl⟩; rw [hu146] at hE; clear hu146
            obtain ⟨u147, hu147⟩ : ∃ x, tm.getD 147 undef = x := ⟨_, rfl⟩; rw [hu147] at hE; clear hu147
            obtain ⟨u148, hu148⟩ : ∃ x, tm.getD 148 undef = x := ⟨_, rfl⟩; rw [hu148] at hE; clear hu148
            obtain ⟨u149, hu149⟩ : ∃ x, tm.getD 149 undef = x := ⟨_, rfl⟩; rw [hu149] at hE; clear hu149
            rewrite [hE]
            clear hE
            refine doneP (by kernel_rfl) ?_
            have cf4 := fun (W : World) (hb : Below Wz.heap.size Wz W) => cf3 W (hcl5.trans (hb.mono hcl5.size))
            have up4 := fun (W : World) (hb : Below Wz.heap.size Wz W) => up3 W (hcl5.trans (hb.mono hcl5.size))
            have dn4 := fun (W : World) (hb : Below Wz.heap.size Wz W) => dn3 W (hcl5.trans (hb.mono hcl5.size))
            clear hcl5
            go_simp
            go_wp2
            go_ret
            have t1 := hB0.trans ((up4 Wz (Below.refl _ _)).mono hB0.size)
            exact ⟨rfl, t1⟩
end Go.Proofs.Wd
