/- The walk of nat.Add. -/
import Derived.Test.YtghgemeclgpibaaDoorNatC
import Derived.Test.YtghgemeclgpibaaDoorMarks
import Derived.Deep.DeepMust
namespace Go.Proofs.Wd
open Go.RowKit Lb
attribute [local go_sem] Oper.semAt_some wide_fn wide_depth

/-- The sum of the first k numbers. -/
def sumTo (ls : List (List Nat)) (k : Nat) : Nat := ((ls.take k).map val).sum
theorem sumTo_zero (ls : List (List Nat)) : sumTo ls 0 = 0 := by simp [sumTo]
theorem sumTo_succ {ls : List (List Nat)} {k : Nat} {l : List Nat} (h : ls[k]? = some l) : sumTo ls (k + 1) = sumTo ls k + val l := by
  unfold sumTo
  rw [List.take_add_one, h]
  simp
theorem sumTo_all {ls : List (List Nat)} {n : Nat} (h : ls.length = n) : sumTo ls n = (ls.map val).sum := by
  unfold sumTo
  rw [List.take_of_length_le (by omega)]

theorem add_step (x y u : Nat) (hx : x < 4294967296) (hy : y < 4294967296) (hu : u ≤ 1) :
    ∃ d z u' : Nat, (u : Int) + ((x : Int) + (y : Int)) = (d : Int) ∧ (d : Int) % 4294967296 = (z : Int) ∧ (d : Int) / 4294967296 = (u' : Int) ∧ z < 4294967296 ∧ u' ≤ 1 ∧ d ≤ 8589934591 ∧ x + y + u = z + u' * 4294967296 :=
  ⟨u + (x + y), (u + (x + y)) % 4294967296, (u + (x + y)) / 4294967296, by omega, by omega, by omega, by omega, by omega, by omega, by omega⟩
theorem add_math {a b lo P x y z u u' : Nat} (heq : lo + u * P = a + b) (hs : x + y + u = z + u' * 4294967296) : lo + z * P + u' * (P * 4294967296) = a + x * P + (b + y * P) := by
  have h := congrArg (· * P) hs
  simp only [Nat.add_mul] at h
  have e : u' * (P * 4294967296) = u' * 4294967296 * P := by rw [Nat.mul_comm P, Nat.mul_assoc]
  omega

def addS (s m : Nat) (b : Nat) : Prop := b < s ∨ b = m + 1 ∨ b = m + 1 + 1

/-- What the inner loop of Add keeps: s the box of 'over', m the box of 'out'. -/
def AddI (B s m : Nat) (w W1 : World) (ls la : List Nat) (ds : List Deferred) (Ds : List Nat) (k : Nat) (W : World) : Prop :=
  ∃ v lo, ∃ u : Nat, Boxed W m 23 v ∧ Own32 W (s + 1) 49 v lo ∧ lo.length = k ∧ Lt lo ∧ Boxed W s 62 (.int .u64 u) ∧ u ≤ 1 ∧
    val lo + u * BB ^ k = sm (lm ls) k + sm (lm la) k ∧ Below B w W ∧ KeepS (addS s m) W1 W ∧ Marks B W ds Ds ∧ W1.heap.size ≤ W.heap.size

theorem addI_own {B s m : Nat} {w W1 : World} {ls la : List Nat} {ds : List Deferred} {Ds : List Nat} (hB : B ≤ w.heap.size) (hsB : B ≤ s) (hs : s ≤ m) (hm : m + 1 + 1 < W1.heap.size) (hD : ∀ D, D ∈ Ds → D < W1.heap.size) : OwnFrom W1.heap.size (AddI B s m w W1 ls la ds Ds) := by
  rintro k W W' row ⟨v, lo, u, hv, hown, hlk, hlt, hu, hu1, heq, hb, hk, hm', h4⟩ hg hr
  refine ⟨v, lo, u, boxed_abide hv hg hr, own_abide hown hg hr, hlk, hlt, boxed_abide hu hg hr, hu1, heq, below_abide hb hg hB (by omega) hr, hk.grown hg (fun b hb => ⟨?_, fun e => ?_⟩), hm'.abide hD hg hr, Nat.le_trans h4 hg.size⟩
  · unfold addS at hb; omega
  · have := (hr b e.symm).1; unfold addS at hb; omega

/-- What the outer loop of Add keeps. -/
def AddR (w : World) (A : Option Addr) (n c : Nat) (ls : List (List Nat)) (a : Act) (W : World) : Prop :=
  ∃ (k : Nat) (v : Value) (ds : List Deferred) (Ds : List Nat) (u4 u5 u6 u7 u8 u12 u13 u14 u15 u16 u17 u18 u19 u20 u21 u22 u23 u24 u25 u26 u27 u28 u29 u30 u31 u32 u33 u34 u35 u36 u37 u38 u39 u40 u41 u42 u43 u44 : Value) (As : Option Addr) (ns cs : Nat) (lo : List Nat),
    a = { tmps := #[.slice A n c, undef, v, undef, u4, u5, u6, u7, u8, .slice A n c, .int .i64 n, .int .i64 k, u12, u13, u14, u15, u16, u17, u18, u19, u20, u21, u22, u23, u24, u25, u26, u27, u28, u29, u30, u31, u32, u33, u34, u35, u36, u37, u38, u39, u40, u41, u42, u43, u44, undef, undef], defers := ds } ∧ k ≤ n ∧ v = .slice As ns cs ∧ Rd W As ns cs lo ∧ Lt lo ∧ ns ≤ 68719476736 + k ∧ val lo = sumTo ls k ∧ Below w.heap.size w W ∧ Marks w.heap.size W ds Ds

set_option maxRecDepth 100000 in
set_option maxHeartbeats 2000000 in
theorem add_any (A : Option Addr) (n c : Nat) (ls : List (List Nat)) (w : World) (h : Rds w A n ls) (hn : n ≤ 1000) :
    Calls Tryd.prog 75 #[.slice A n c] w (RetNat w (ls.map val).sum) := by
  obtain ⟨i0, hi0, hz0, hz1, hz2⟩ := info_parts u32_info
  refine calls_marks Tryd.func75 rfl ?_
  simp only [Tryd.ntmps75, List.size_toArray, List.length_cons, List.length_nil, Nat.reduceAdd, Nat.reduceSub, Array.replicate_succ, Array.replicate_zero, List.push_toArray, List.append_toArray, List.nil_append, List.cons_append]
  go_wp2
  refine wp_loop (AddR w A n c ls) (fun a _ => n - (intOf (a.tmps.getD 11 undef)).toNat) ?_ ?_
  · exact ⟨0, _, [], [], _, _, _, _, _, _, _, _, _, _, _, _, _, _, _, _, _, _, _, _, _, _, _, _, _, _, _, _, _, _, _, _, _, _, _, _, _, _, none, 0, 0, [], rfl, Nat.zero_le _, rfl, Rd.nil_ _, Lt_nil, by omega, by rw [sumTo_zero]; rfl, Below.refl _ _, Marks.nil _ _⟩
  rintro a W ⟨k, v, ds, Ds, u4, u5, u6, u7, u8, u12, u13, u14, u15, u16, u17, u18, u19, u20, u21, u22, u23, u24, u25, u26, u27, u28, u29, u30, u31, u32, u33, u34, u35, u36, u37, u38, u39, u40, u41, u42, u43, u44, As, ns, cs, lo, rfl, hk, rfl, hrs, hlt, hns, hval, hB, hM⟩
  by_cases hkn : k < n
  · obtain ⟨b, o, Ai, ni, ci, la, rfl, hcell, hla, hra, hta, hni⟩ := h.cells k hkn
    have hcW : W.cell? ⟨b, o + k, none⟩ = some (.slice Ai ni ci) := (hB.cell (p := ⟨b, o + k, none⟩) (lt_of_cell hcell)).trans hcell
    have hraW := hra.below hB
    obtain ⟨N, hmx, hmx2, hN⟩ : ∃ N, ((ns < ni ∧ ni = N) ∨ (¬ ns < ni ∧ ns = N)) ∧ ((ni < ns ∧ N = ns) ∨ (¬ ni < ns ∧ N = ni)) ∧ ni ≤ N ∧ ns ≤ N ∧ N ≤ 68719476736 + k := by
      rcases Nat.lt_trichotomy ns ni with hh | hh | hh
      · exact ⟨ni, .inl ⟨hh, rfl⟩, .inr ⟨by omega, rfl⟩, by omega⟩
      · exact ⟨ns, .inr ⟨by omega, rfl⟩, .inr ⟨by omega, hh⟩, by omega⟩
      · exact ⟨ns, .inr ⟨by omega, rfl⟩, .inl ⟨hh, rfl⟩, by omega⟩
    have HX := hid hmx
    clear hmx
    have hbase : W.heap.size + 1 ≤ (W.alloc (.cells #[.int .u64 0] 62)).heap.size := by simp
    have hbytes : i0.bytes * (N + 1) ≤ 281474976710656 := by rw [hz2]; omega
    have hmax : N + 1 ≤ maxLen := by unfold maxLen; omega
    rcases hmx2 with ⟨hx, hxe⟩ | ⟨hx, hxe⟩
    · have HC : Hid (((ns : Int) + 1) = ((N + 1 : Nat) : Int)) := hid (by omega)
      have HE := hid hxe
      clear hxe
      go_wp2_with (first | (at_make; refine wpList_make_own _ rfl _ _ 23 rfl (W.heap.size + 1) 49 i0 (.int .u32 0) 1 u32_under hi0 hz0 hz1 .i64 .i64 _ (N + 1) rfl rfl HC.out hbytes hmax hbase ?_; intro w0 hown0 hgrow0) | (go_at_call 103; refine (pairs_any _ _ _ _ _ _ _).mono ?_; rintro e w1 ⟨rfl, rfl⟩))
      rw [World.size_alloc] at hown0
      have hm0 : W.heap.size + 1 < w0.heap.size := (World.ownsRow.lt hown0 _ rfl).2
      obtain ⟨W1, hW1⟩ : ∃ W1, (((w0.alloc (.cells #[.slice (some ⟨W.heap.size + 1, 0, none⟩) 0 (N + 1)] 23)).alloc (.cells #[.slice As ns cs] 23)).alloc (.cells #[.slice Ai ni ci] 23)) = W1 := ⟨_, rfl⟩
      have hsz : W1.heap.size = w0.heap.size + 3 := by rw [← hW1]; simp
      have hBW : Below W.heap.size W W1 := by
        rw [← hW1]
        exact (((((Below.refl _ W).alloc (Nat.le_refl _) _).grown hgrow0 (by simp) (fun _ e => by cases e)).alloc (by omega) _).alloc (by simp; omega) _).alloc (by simp; omega) _
      have hB1 : Below w.heap.size w W1 := hB.trans (hBW.mono hB.size)
      have bs : Boxed W1 W.heap.size 62 (.int .u64 0) := by rw [← hW1]; exact ((((Boxed.new W _ _).kept hgrow0 (by simp)).alloc _).alloc _).alloc _
      have bm : Boxed W1 w0.heap.size 23 (.slice (some ⟨W.heap.size + 1, 0, none⟩) 0 (N + 1)) := by rw [← hW1]; exact ((Boxed.new w0 _ _).alloc _).alloc _
      have bp : Boxed W1 (w0.heap.size + 1) 23 (.slice As ns cs) := by
        rw [← hW1]; have := Boxed.new (w0.alloc (.cells #[.slice (some ⟨W.heap.size + 1, 0, none⟩) 0 (N + 1)] 23)) 23 (.slice As ns cs); rw [World.size_alloc] at this; exact this.alloc _
      have bq : Boxed W1 (w0.heap.size + 1 + 1) 23 (.slice Ai ni ci) := by
        rw [← hW1]; have := Boxed.new ((w0.alloc (.cells #[.slice (some ⟨W.heap.size + 1, 0, none⟩) 0 (N + 1)] 23)).alloc (.cells #[.slice As ns cs] 23)) 23 (.slice Ai ni ci); rw [World.size_alloc, World.size_alloc] at this; exact this
      have ho1 : Own32 W1 (W.heap.size + 1) 49 (.slice (some ⟨W.heap.size + 1, 0, none⟩) 0 (N + 1)) [] := by
        rw [← hW1]; exact ((World.ownsRow.alloc hown0 _).alloc _).alloc _
      have hM1 := hM.made hBW
      have hD1 := hM1.lt
      rw [hW1]
      clear hW1
      have hSb : ∀ b, addS W.heap.size w0.heap.size b → b < W1.heap.size := fun b hb => by unfold addS at hb; omega
      refine wp_range (gf := 115) rfl (enters_of Tryd.func115 (by kernel_rfl) rfl) (pairs1_iter As ns cs lo Ai ni ci la (w0.heap.size + 1) (w0.heap.size + 1 + 1) N W1 (hrs.below hBW) (hraW.below hBW) hlt hta bp.cell bq.cell HX.out (S := addS W.heap.size w0.heap.size) hSb (.inr (.inl rfl)) (.inr (.inr rfl)) (fun b o hn e => .inl (hrs.in_ b o hn e)) (fun b o hn e => .inl (hraW.in_ b o hn e))) (fun _ => rfl) KeepS.trans (keepS_b hSb)
        (AddI w.heap.size W.heap.size w0.heap.size w W1 lo la ds Ds) (addI_own (Nat.le_refl _) hB.size (by omega) (by omega) hD1) (abide_mk (addI_own (Nat.le_refl _) hB.size (by omega) (by omega) hD1)) Mk.keeps (fun _ _ _ _ _ _ _ _ => trivial)
        ⟨_, [], 0, bm, ho1, rfl, Lt_nil, bs, by omega, by simp [sm], hB1, KeepS.refl _ _, hM1, Nat.le_refl _⟩
        (fun j => { tmps := #[.slice (some ⟨b, o, none⟩) n c, undef, .slice As ns cs, undef, .slice Ai ni ci, .pointer (some ⟨W.heap.size, 0, none⟩), .pointer (some ⟨w0.heap.size, 0, none⟩), .int .u64 (lm lo j : Nat), .int .u64 (lm la j : Nat), .slice (some ⟨b, o, none⟩) n c, .int .i64 n, .int .i64 k, .bool true, .pointer (some ⟨b, o + k, none⟩), .slice Ai ni ci, .slice Ai ni ci, .int .i64 ni, .slice As ns cs, .int .i64 ns, .int .i64 ns, .int .i64 ((ns : Int) + 1), .slice (some ⟨W.heap.size + 1, 0, none⟩) 0 (N + 1), .slice As ns cs, .slice Ai ni ci, .func (.func 115) #[] #[.pointer (some ⟨w0.heap.size + 1, 0, none⟩), .pointer (some ⟨w0.heap.size + 1 + 1, 0, none⟩)], .int .u64 (lm lo j : Nat), .int .u64 (lm la j : Nat), u27, u28, u29, u30, u31, u32, u33, u34, u35, u36, u37, u38, u39, u40, u41, u42, u43, u44, undef, undef], defers := [] }) ?_ ?_ ?_
      · intro lp j W2 K hK
        gi_wp2
        exact hK
      · rintro lp j W2 hj ⟨v, lv, u, hv, hown, hlk, hlv, hu, hu1, heq, hB2, hK2, hM2, hsz2⟩
        have hcv := hv.cell; have hfv := hv.frozen; have hcu := hu.cell; have hfu := hu.frozen
        have x1 := lm_BB hlt j; have x2 := lm_BB hta j
        simp only [BB] at x1 x2
        obtain ⟨d, z, u', hd, hz, hu', hz1, hu1', hd1, hstep⟩ := add_step (lm lo j) (lm la j) u x1 x2 hu1
        have HS := hid hstep
        clear hstep
        have hs1 : lv.length + [z].length ≤ 17592186044416 := by simp; omega
        have hl1 : (lv ++ [z]).length = j + 1 := by simp; omega
        have hte : 23 ≠ 49 := by decide
        have hte' : 62 ≠ 49 := by decide
        have hne : W.heap.size ≠ w0.heap.size := by omega
        have hne' : w0.heap.size ≠ W.heap.size := by omega
        have hbW : W.heap.size + 1 ≤ W2.heap.size := by omega
        have bp2 := hK2.boxed (.inr (.inl rfl)) bp
        have bq2 := hK2.boxed (.inr (.inr rfl)) bq
        have hSS : ∀ b, addS W.heap.size w0.heap.size b → b < W2.heap.size ∧ some b ≠ v.ownBlock := fun b hb => ⟨by have := hSb b hb; omega, by
          rcases hb with hb | rfl | rfl
          · exact hown.not_in (by omega)
          · exact bp2.not_row hte hown
          · exact bq2.not_row hte hown⟩
        have hSo : ¬ addS W.heap.size w0.heap.size w0.heap.size := by unfold addS; omega
        have hSu : ¬ addS W.heap.size w0.heap.size W.heap.size := by unfold addS; omega
        have huS := hu.set (.int .u64 d)
        have hownS := hown.other hu hte' (.int .u64 d)
        have hvS := hv.other hne' (.int .u64 d)
        have cvS := hvS.cell; have fvS := hvS.frozen; have cuS := huS.cell; have fuS := huS.frozen
        have hbS : W.heap.size + 1 ≤ (W2.setCell ⟨W.heap.size, 0, none⟩ (.int .u64 d)).heap.size := Nat.le_trans hbW (KeepsOthers.setCell _ _ _).size
        gi_wp2_with (gi_at_builtin; go_must (refine wpListIn_append_rd rfl _ _ 23 49 rfl u32_under u32_info (W.heap.size + 1) v lv rfl (Own32.alloc hownS _) _ 1 1 [z] rfl (Rd.oneAt _ z 49 (size_setCell W2 _ _)) hs1 (le_alloc hbS _) ?_; intro v1 w1 hown1 hg1 hat1; obtain ⟨A1, c1, rfl⟩ := hown1.form' hl1; have hk3 := keepS32 (v' := .slice A1 (j + 1) c1) hg1 (fun b hb => ⟨Nat.lt_of_lt_of_le (hSS b hb).1 (KeepsOthers.setCell _ _ _).size, (hSS b hb).2⟩) hSo; obtain ⟨hv1, hv2, hr2, hk2, hb2⟩ := append32 hte hvS hownS hbS (Nat.le_of_lt hm0) (Nat.le_refl _) hown1 hg1; have hc1 := hv1.cell; have hf1 := hv1.frozen; have hu2 := beside32 hte' huS hownS hg1; have hc2 := hu2.cell; have hf2 := hu2.frozen))
        have hu3 := hu2.other hne (.slice A1 (j + 1) c1)
        have hko := (KeepsOthers.setCell W2 ⟨W.heap.size, 0, none⟩ (.int .u64 d)).trans (hk2.trans (KeepsOthers.setCell _ ⟨W.heap.size, 0, none⟩ (.int .u64 u')))
        have hks := (((KeepS.refl (addS W.heap.size w0.heap.size) W2).setCell (p := ⟨W.heap.size, 0, none⟩) hSu (.int .u64 d)).trans hk3).setCell (p := ⟨W.heap.size, 0, none⟩) hSu (.int .u64 u')
        refine ⟨hko.from _, hks, _, lv ++ [z], u', hv2.other hne' _, hr2.other hu3 hte' _, hl1, Lt_snoc hlv hz1, hu3.set _, hu1', ?_, ((hB2.setCell (p := ⟨W.heap.size, 0, none⟩) hB.size _).trans (hb2.mono (by have := hB.size; omega))).setCell (p := ⟨W.heap.size, 0, none⟩) hB.size _, hK2.trans hks, hM2.others hko, Nat.le_trans hsz2 hko.size⟩
        rw [val_snoc, hlk]
        simp only [sm, Nat.pow_succ]
        exact add_math heq HS.out
      · rintro D W3 hD ⟨v, lv, u, hv, hown, hlk, hlv, hu, hu1, heq, hB2, hK2, hM2, hsz2⟩ _ hd
        obtain ⟨A1, c1, rfl⟩ := hown.form' hlk
        have hcv := hv.cell; have hcu := hu.cell
        have heu : (u : Int) % 4294967296 = u := by omega
        have hs1 : lv.length + [u].length ≤ 17592186044416 := by simp; omega
        have hl1 : (lv ++ [u]).length = N + 1 := by simp; omega
        have hbW : W.heap.size + 1 ≤ W3.heap.size := by omega
        go_wp2_with (at_builtin; go_must (refine wpList_append_rd rfl _ _ 23 49 rfl u32_under u32_info (W.heap.size + 1) _ lv rfl (Own32.alloc hown _) _ 1 1 [u] rfl (Rd.one _ u 49) hs1 (le_alloc hbW _) ?_; intro v1 w1 hown1 hg1 hat1; obtain ⟨A2, c2, rfl⟩ := hown1.form' hl1))
        have hD2 : D ∉ Ds := fun h => by have := hD1 D h; omega
        have hM3 := (hM2.more hD2 (by have := hB1.size; omega) hd).others (keepsOthers32 hown hg1)
        refine ⟨⟨k + 1, _, _, _, _, _, _, _, _, _, _, _, _, _, _, _, _, _, _, _, _, _, _, _, _, _, _, _, _, _, _, _, _, _, _, _, _, _, _, _, _, _, A2, N + 1, c2, lv ++ [u], rfl, by omega, rfl, hown1.rd, Lt_snoc hlv (by unfold BB; omega), by omega, ?_, Own32.grown (hB2.alloc hB2.size _) (Own32.alloc hown _) hg1 (by have := hB.size; omega) (le_alloc hB2.size _), hM3⟩, ?_⟩
        · have e1 := val_eq (l := lo) (n := N) (by rw [hrs.len]; omega)
          have e2 := val_eq (l := la) (n := N) (by rw [hra.len]; omega)
          rw [sumTo_succ hla, val_snoc, hlk, heq, e1, e2, hval]
        · show n - (intOf (.int .i64 ((k : Int) + 1))).toNat < n - (intOf (.int .i64 (k : Int))).toNat
          simp [intOf]
          omega
    · have HC : Hid (((ni : Int) + 1) = ((N + 1 : Nat) : Int)) := hid (by omega)
      have HE := hid hxe
      clear hxe
      go_wp2_with (first | (at_make; refine wpList_make_own _ rfl _ _ 23 rfl (W.heap.size + 1) 49 i0 (.int .u32 0) 1 u32_under hi0 hz0 hz1 .i64 .i64 _ (N + 1) rfl rfl HC.out hbytes hmax hbase ?_; intro w0 hown0 hgrow0) | (go_at_call 103; refine (pairs_any _ _ _ _ _ _ _).mono ?_; rintro e w1 ⟨rfl, rfl⟩))
      rw [World.size_alloc] at hown0
      have hm0 : W.heap.size + 1 < w0.heap.size := (World.ownsRow.lt hown0 _ rfl).2
      obtain ⟨W1, hW1⟩ : ∃ W1, (((w0.alloc (.cells #[.slice (some ⟨W.heap.size + 1, 0, none⟩) 0 (N + 1)] 23)).alloc (.cells #[.slice As ns cs] 23)).alloc (.cells #[.slice Ai ni ci] 23)) = W1 := ⟨_, rfl⟩
      have hsz : W1.heap.size = w0.heap.size + 3 := by rw [← hW1]; simp
      have hBW : Below W.heap.size W W1 := by
        rw [← hW1]
        exact (((((Below.refl _ W).alloc (Nat.le_refl _) _).grown hgrow0 (by simp) (fun _ e => by cases e)).alloc (by omega) _).alloc (by simp; omega) _).alloc (by simp; omega) _
      have hB1 : Below w.heap.size w W1 := hB.trans (hBW.mono hB.size)
      have bs : Boxed W1 W.heap.size 62 (.int .u64 0) := by rw [← hW1]; exact ((((Boxed.new W _ _).kept hgrow0 (by simp)).alloc _).alloc _).alloc _
      have bm : Boxed W1 w0.heap.size 23 (.slice (some ⟨W.heap.size + 1, 0, none⟩) 0 (N + 1)) := by rw [← hW1]; exact ((Boxed.new w0 _ _).alloc _).alloc _
      have bp : Boxed W1 (w0.heap.size + 1) 23 (.slice As ns cs) := by
        rw [← hW1]; have := Boxed.new (w0.alloc (.cells #[.slice (some ⟨W.heap.size + 1, 0, none⟩) 0 (N + 1)] 23)) 23 (.slice As ns cs); rw [World.size_alloc] at this; exact this.alloc _
      have bq : Boxed W1 (w0.heap.size + 1 + 1) 23 (.slice Ai ni ci) := by
        rw [← hW1]; have := Boxed.new ((w0.alloc (.cells #[.slice (some ⟨W.heap.size + 1, 0, none⟩) 0 (N + 1)] 23)).alloc (.cells #[.slice As ns cs] 23)) 23 (.slice Ai ni ci); rw [World.size_alloc, World.size_alloc] at this; exact this
      have ho1 : Own32 W1 (W.heap.size + 1) 49 (.slice (some ⟨W.heap.size + 1, 0, none⟩) 0 (N + 1)) [] := by
        rw [← hW1]; exact ((World.ownsRow.alloc hown0 _).alloc _).alloc _
      have hM1 := hM.made hBW
      have hD1 := hM1.lt
      rw [hW1]
      clear hW1
      have hSb : ∀ b, addS W.heap.size w0.heap.size b → b < W1.heap.size := fun b hb => by unfold addS at hb; omega
      refine wp_range (gf := 115) rfl (enters_of Tryd.func115 (by kernel_rfl) rfl) (pairs1_iter As ns cs lo Ai ni ci la (w0.heap.size + 1) (w0.heap.size + 1 + 1) N W1 (hrs.below hBW) (hraW.below hBW) hlt hta bp.cell bq.cell HX.out (S := addS W.heap.size w0.heap.size) hSb (.inr (.inl rfl)) (.inr (.inr rfl)) (fun b o hn e => .inl (hrs.in_ b o hn e)) (fun b o hn e => .inl (hraW.in_ b o hn e))) (fun _ => rfl) KeepS.trans (keepS_b hSb)
        (AddI w.heap.size W.heap.size w0.heap.size w W1 lo la ds Ds) (addI_own (Nat.le_refl _) hB.size (by omega) (by omega) hD1) (abide_mk (addI_own (Nat.le_refl _) hB.size (by omega) (by omega) hD1)) Mk.keeps (fun _ _ _ _ _ _ _ _ => trivial)
        ⟨_, [], 0, bm, ho1, rfl, Lt_nil, bs, by omega, by simp [sm], hB1, KeepS.refl _ _, hM1, Nat.le_refl _⟩
        (fun j => { tmps := #[.slice (some ⟨b, o, none⟩) n c, undef, .slice As ns cs, undef, .slice Ai ni ci, .pointer (some ⟨W.heap.size, 0, none⟩), .pointer (some ⟨w0.heap.size, 0, none⟩), .int .u64 (lm lo j : Nat), .int .u64 (lm la j : Nat), .slice (some ⟨b, o, none⟩) n c, .int .i64 n, .int .i64 k, .bool true, .pointer (some ⟨b, o + k, none⟩), .slice Ai ni ci, .slice Ai ni ci, .int .i64 ni, .slice As ns cs, .int .i64 ns, .int .i64 ni, .int .i64 ((ni : Int) + 1), .slice (some ⟨W.heap.size + 1, 0, none⟩) 0 (N + 1), .slice As ns cs, .slice Ai ni ci, .func (.func 115) #[] #[.pointer (some ⟨w0.heap.size + 1, 0, none⟩), .pointer (some ⟨w0.heap.size + 1 + 1, 0, none⟩)], .int .u64 (lm lo j : Nat), .int .u64 (lm la j : Nat), u27, u28, u29, u30, u31, u32, u33, u34, u35, u36, u37, u38, u39, u40, u41, u42, u43, u44, undef, undef], defers := [] }) ?_ ?_ ?_
      · intro lp j W2 K hK
        gi_wp2
        exact hK
      · rintro lp j W2 hj ⟨v, lv, u, hv, hown, hlk, hlv, hu, hu1, heq, hB2, hK2, hM2, hsz2⟩
        have hcv := hv.cell; have hfv := hv.frozen; have hcu := hu.cell; have hfu := hu.frozen
        have x1 := lm_BB hlt j; have x2 := lm_BB hta j
        simp only [BB] at x1 x2
        obtain ⟨d, z, u', hd, hz, hu', hz1, hu1', hd1, hstep⟩ := add_step (lm lo j) (lm la j) u x1 x2 hu1
        have HS := hid hstep
        clear hstep
        have hs1 : lv.length + [z].length ≤ 17592186044416 := by simp; omega
        have hl1 : (lv ++ [z]).length = j + 1 := by simp; omega
        have hte : 23 ≠ 49 := by decide
        have hte' : 62 ≠ 49 := by decide
        have hne : W.heap.size ≠ w0.heap.size := by omega
        have hne' : w0.heap.size ≠ W.heap.size := by omega
        have hbW : W.heap.size + 1 ≤ W2.heap.size := by omega
        have bp2 := hK2.boxed (.inr (.inl rfl)) bp
        have bq2 := hK2.boxed (.inr (.inr rfl)) bq
        have hSS : ∀ b, addS W.heap.size w0.heap.size b → b < W2.heap.size ∧ some b ≠ v.ownBlock := fun b hb => ⟨by have := hSb b hb; omega, by
          rcases hb with hb | rfl | rfl
          · exact hown.not_in (by omega)
          · exact bp2.not_row hte hown
          · exact bq2.not_row hte hown⟩
        have hSo : ¬ addS W.heap.size w0.heap.size w0.heap.size := by unfold addS; omega
        have hSu : ¬ addS W.heap.size w0.heap.size W.heap.size := by unfold addS; omega
        have huS := hu.set (.int .u64 d)
        have hownS := hown.other hu hte' (.int .u64 d)
        have hvS := hv.other hne' (.int .u64 d)
        have cvS := hvS.cell; have fvS := hvS.frozen; have cuS := huS.cell; have fuS := huS.frozen
        have hbS : W.heap.size + 1 ≤ (W2.setCell ⟨W.heap.size, 0, none⟩ (.int .u64 d)).heap.size := Nat.le_trans hbW (KeepsOthers.setCell _ _ _).size
        gi_wp2_with (gi_at_builtin; go_must (refine wpListIn_append_rd rfl _ _ 23 49 rfl u32_under u32_info (W.heap.size + 1) v lv rfl (Own32.alloc hownS _) _ 1 1 [z] rfl (Rd.oneAt _ z 49 (size_setCell W2 _ _)) hs1 (le_alloc hbS _) ?_; intro v1 w1 hown1 hg1 hat1; obtain ⟨A1, c1, rfl⟩ := hown1.form' hl1; have hk3 := keepS32 (v' := .slice A1 (j + 1) c1) hg1 (fun b hb => ⟨Nat.lt_of_lt_of_le (hSS b hb).1 (KeepsOthers.setCell _ _ _).size, (hSS b hb).2⟩) hSo; obtain ⟨hv1, hv2, hr2, hk2, hb2⟩ := append32 hte hvS hownS hbS (Nat.le_of_lt hm0) (Nat.le_refl _) hown1 hg1; have hc1 := hv1.cell; have hf1 := hv1.frozen; have hu2 := beside32 hte' huS hownS hg1; have hc2 := hu2.cell; have hf2 := hu2.frozen))
        have hu3 := hu2.other hne (.slice A1 (j + 1) c1)
        have hko := (KeepsOthers.setCell W2 ⟨W.heap.size, 0, none⟩ (.int .u64 d)).trans (hk2.trans (KeepsOthers.setCell _ ⟨W.heap.size, 0, none⟩ (.int .u64 u')))
        have hks := (((KeepS.refl (addS W.heap.size w0.heap.size) W2).setCell (p := ⟨W.heap.size, 0, none⟩) hSu (.int .u64 d)).trans hk3).setCell (p := ⟨W.heap.size, 0, none⟩) hSu (.int .u64 u')
        refine ⟨hko.from _, hks, _, lv ++ [z], u', hv2.other hne' _, hr2.other hu3 hte' _, hl1, Lt_snoc hlv hz1, hu3.set _, hu1', ?_, ((hB2.setCell (p := ⟨W.heap.size, 0, none⟩) hB.size _).trans (hb2.mono (by have := hB.size; omega))).setCell (p := ⟨W.heap.size, 0, none⟩) hB.size _, hK2.trans hks, hM2.others hko, Nat.le_trans hsz2 hko.size⟩
        rw [val_snoc, hlk]
        simp only [sm, Nat.pow_succ]
        exact add_math heq HS.out
      · rintro D W3 hD ⟨v, lv, u, hv, hown, hlk, hlv, hu, hu1, heq, hB2, hK2, hM2, hsz2⟩ _ hd
        obtain ⟨A1, c1, rfl⟩ := hown.form' hlk
        have hcv := hv.cell; have hcu := hu.cell
        have heu : (u : Int) % 4294967296 = u := by omega
        have hs1 : lv.length + [u].length ≤ 17592186044416 := by simp; omega
        have hl1 : (lv ++ [u]).length = N + 1 := by simp; omega
        have hbW : W.heap.size + 1 ≤ W3.heap.size := by omega
        go_wp2_with (at_builtin; go_must (refine wpList_append_rd rfl _ _ 23 49 rfl u32_under u32_info (W.heap.size + 1) _ lv rfl (Own32.alloc hown _) _ 1 1 [u] rfl (Rd.one _ u 49) hs1 (le_alloc hbW _) ?_; intro v1 w1 hown1 hg1 hat1; obtain ⟨A2, c2, rfl⟩ := hown1.form' hl1))
        have hD2 : D ∉ Ds := fun h => by have := hD1 D h; omega
        have hM3 := (hM2.more hD2 (by have := hB1.size; omega) hd).others (keepsOthers32 hown hg1)
        refine ⟨⟨k + 1, _, _, _, _, _, _, _, _, _, _, _, _, _, _, _, _, _, _, _, _, _, _, _, _, _, _, _, _, _, _, _, _, _, _, _, _, _, _, _, _, _, A2, N + 1, c2, lv ++ [u], rfl, by omega, rfl, hown1.rd, Lt_snoc hlv (by unfold BB; omega), by omega, ?_, Own32.grown (hB2.alloc hB2.size _) (Own32.alloc hown _) hg1 (by have := hB.size; omega) (le_alloc hB2.size _), hM3⟩, ?_⟩
        · have e1 := val_eq (l := lo) (n := N) (by rw [hrs.len]; omega)
          have e2 := val_eq (l := la) (n := N) (by rw [hra.len]; omega)
          rw [sumTo_succ hla, val_snoc, hlk, heq, e1, e2, hval]
        · show n - (intOf (.int .i64 ((k : Int) + 1))).toNat < n - (intOf (.int .i64 (k : Int))).toNat
          simp [intOf]
          omega
  · obtain rfl : k = n := by omega
    go_wp2_with (go_at_call 50; refine (trim_any _ _ _ _ _ hrs hlt (by omega)).mono ?_; rintro e w1 ⟨A2, n2, c2, l2, rfl, hi2, hr2, hb2⟩)
    refine leaves_marks w1 (fun w' _ => results_tmp rfl _ _ w') Ds ds w1 (hM.made hb2) (Oth.refl _ _) ?_
    intro w' ho
    rw [hval, sumTo_all h.len] at hi2
    exact ⟨A2, n2, c2, l2, rfl, hi2, hr2.oth ho, below_oth (hB.trans (hb2.mono hB.size)) ho (Nat.le_refl _)⟩
end Go.Proofs.Wd
