/- The calculus of walks by facts: natural numbers and integers; The walk of straitref05's Div; Quotients as sint and straitref05 tell them; The walk of straitlaw05.SintTells. -/
import Derived.Test.YtghgemeclgpibaaMT6
import Derived.Test.YtghgemeclgpibaaMT10
import Derived.Test.YtghgemeclgpibaaMT17
import Derived.Test.YtghgemeclgpibaaMT1
import Derived.Test.YtghgemeclgpibaaMT16
import Derived.Test.YtghgemeclgpibaaMT7
import Derived.Test.YtghgemeclgpibaaMT3
import Derived.Test.YtghgemeclgpibaaMT9
namespace Go.Proofs.Wd
open Go.RowKit Lb

def fNat (x : Nat) : UF := .mk' (fun v w => NatV w v x) fun _ _ _ ⟨A, n, c, l, e, h1, h2⟩ k => ⟨A, n, c, l, e, h1, h2.keepU k⟩
def fLV (m x : Nat) : UF := .mk' (fun v w => LV w m v x) fun _ _ _ ⟨A, n, c, l, e, h1, h2⟩ k => ⟨A, n, c, l, e, h1.keepU k, h2⟩
def fNV (k : Int) : UF := .mk' (fun v w => NV w v k) fun _ _ _ ⟨A, n, c, l, e, h1, h2⟩ k => ⟨A, n, c, l, e, h1, h2.keepU k⟩
def fUV (m : Nat) (k : Int) : UF := .mk' (fun v w => UV w m v k) fun _ _ _ ⟨s, A, n, c, l, e, h1, h2⟩ k => ⟨s, A, n, c, l, e, h1.keepU k, h2⟩
def fB (b : Bool) : UF := .eq (.bool b)
def fI (z : Int) : UF := .eq (.int .i64 z)

theorem obs_cons {F : Fence} {m : Nat} {P : Program} {w0 : World} {ops : Array Oper} {G : Nat → SF} {o : Oper} {l : List Oper} (h : GdOK F m P w0 ops G o) (k : Obs F m P w0 ops G l) : Obs F m P w0 ops G (o :: l) := ⟨h, k⟩
theorem obs_nil {F : Fence} {m : Nat} {P : Program} {w0 : World} {ops : Array Oper} {G : Nat → SF} : Obs F m P w0 ops G [] := trivial

/-- The cells from k on. -/
def CF.at (C : CF) (k : Nat) : CF := ⟨fun cs w => ∃ ds, C.p ds w ∧ cs = ds.drop k, fun _ _ _ ⟨ds, h1, h2⟩ hb => ⟨ds, C.st _ _ _ h1 hb, h2⟩⟩

section
variable {F : Fence} {m : Nat} {P : Program} {w0 : World} {ops : Array Oper} {G : Nat → SF} {d : Tmp} {ty : TypeId} {pos : String} {aft : Array Edge}
theorem ok_fld {x : Operand} {s : TypeId} {f : Nat} {C : CF} (k : Nat) (hk : fieldOff P s f = some k) (hx : ∀ v W, (fct G x).p v W → (SF.ptr C).p v W := by exact fun _ _ h => h) (hd : ∀ v W, (SF.ptr (C.at k)).p v W → (G d).p v W := by exact fun _ _ h => h) : GdOK F m P w0 ops G ⟨some d, .fieldAddr s x f, ty, pos, aft, none⟩ :=
  ok_field (C' := C.at k) k hk hx (fun cs _ h => ⟨cs, h, rfl⟩) hd
theorem ok_fldn {x : Operand} {s : TypeId} {f : Nat} {C : CF} (i k : Nat) (hk : fieldOff P s f = some k) (hx : ∀ v W, (fct G x).p v W → (SF.ptr (C.at i)).p v W := by exact fun _ _ h => h) (hd : ∀ v W, (SF.ptr (C.at (i + k))).p v W → (G d).p v W := by exact fun _ _ h => h) : GdOK F m P w0 ops G ⟨some d, .fieldAddr s x f, ty, pos, aft, none⟩ :=
  ok_field (C' := C.at (i + k)) k hk hx (fun cs _ ⟨ds, h1, h2⟩ => ⟨ds, h1, by rw [h2, List.drop_drop]⟩) hd
theorem ok_ld {x : Operand} {t : TypeId} {C : CF} {k : Nat} (hk : isPlain P t = true) (hx : ∀ v W, (fct G x).p v W → (SF.ptr (C.at k)).p v W := by exact fun _ _ h => h) (h : ∀ cs W, C.p cs W → ∃ u, cs[k]? = some u ∧ (G d).p u W) : GdOK F m P w0 ops G ⟨some d, .load t x, ty, pos, aft, none⟩ :=
  ok_load1 hk hx fun cs W ⟨ds, h1, h2⟩ => let ⟨u, h3, h4⟩ := h ds W h1; ⟨u, by rw [h2, List.getElem?_drop]; exact h3, h4⟩
theorem ok_ldA {x : Operand} {t : TypeId} {C : CF} {k : Nat} (z : Nat) (hk : aggSize P t = some z) (hx : ∀ v W, (fct G x).p v W → (SF.ptr (C.at k)).p v W := by exact fun _ _ h => h) (h : ∀ cs W, C.p cs W → k + z ≤ cs.length ∧ (G d).p (.agg ((cs.drop k).take z).toArray) W) : GdOK F m P w0 ops G ⟨some d, .load t x, ty, pos, aft, none⟩ :=
  ok_loadA z hk hx fun cs W ⟨ds, h1, h2⟩ => let ⟨h3, h4⟩ := h ds W h1; ⟨by rw [h2, List.length_drop]; omega, by rw [h2]; exact h4⟩
/-- A struct, loaded whole. -/
theorem ok_ldW {x : Operand} {t : TypeId} {f : UF} (z : Nat) (hk : aggSize P t = some z) (hx : ∀ v W, (fct G x).p v W → (SF.ptr (CU.agg f).cf).p v W := by exact fun _ _ h => h) (hz : ∀ cs : List Value, ∀ W, f.p (.agg cs.toArray) W → cs.length = z) (hd : ∀ v W, f.p v W → (G d).p v W := by exact fun _ _ h => h) : GdOK F m P w0 ops G ⟨some d, .load t x, ty, pos, aft, none⟩ :=
  ok_loadA z hk hx fun cs W h => ⟨by rw [hz cs W h]; exact Nat.le_refl _, by
    have h1 := hz cs W h
    rw [List.take_of_length_le (by omega)]
    exact hd _ _ h⟩
/-- What is called yields this, as a Ret with another fact. -/
theorem Ret.to {W : World} {f g : SF} (h : ∀ v W, f.p v W → g.p v W) : ∀ e W', Ret W f e W' → Ret W g e W' := fun _ _ ⟨v, e, h1, h2⟩ => ⟨v, e, h _ _ h1, h2⟩
end

theorem agg_inj {xs ys : Array Value} (h : Value.agg xs = Value.agg ys) : xs = ys := by injection h
theorem uv_cells {cs : List Value} {W : World} {m : Nat} {k : Int} (h : (fUV m k).p (.agg cs.toArray) W) : ∃ s A n c, cs = [.bool s, .slice A n c] ∧ ∃ l, Rd W A n c l ∧ Lt l ∧ n ≤ m ∧ iv s l = k := by
  obtain ⟨s, A, n, c, l, e, h1⟩ := h
  have := congrArg Array.toList (agg_inj e)
  exact ⟨s, A, n, c, by simpa using this, l, h1⟩
theorem nv_cells {cs : List Value} {W : World} {k : Int} (h : (fNV k).p (.agg cs.toArray) W) : ∃ A n c, cs = [.bool (decide (k < 0)), .slice A n c] ∧ ∃ l, Is l k.natAbs ∧ Rd W A n c l := by
  obtain ⟨A, n, c, l, e, h1⟩ := h
  have := congrArg Array.toList (agg_inj e)
  exact ⟨A, n, c, by simpa using this, l, h1⟩
theorem uv_len (m : Nat) (k : Int) : ∀ cs : List Value, ∀ W, (fUV m k).p (.agg cs.toArray) W → cs.length = 2 := fun cs W h => by
  obtain ⟨s, A, n, c, rfl, _⟩ := uv_cells h
  rfl
theorem nv_len (k : Int) : ∀ cs : List Value, ∀ W, (fNV k).p (.agg cs.toArray) W → cs.length = 2 := fun cs W h => by
  obtain ⟨A, n, c, rfl, _⟩ := nv_cells h
  rfl
/-- The parts of a box that holds an integer. -/
theorem uv_abs {m : Nat} {k : Int} (cs : List Value) (W : World) (h : (CU.agg (fUV m k)).p cs W) : ∃ u, cs[1]? = some u ∧ LV W m u k.natAbs := by
  obtain ⟨s, A, n, c, rfl, l, h1, h2, h3, rfl⟩ := uv_cells h
  exact ⟨_, rfl, A, n, c, l, rfl, h1, h2, h3, (iv_abs s l).symm⟩
theorem nv_abs {k : Int} (cs : List Value) (W : World) (h : (CU.agg (fNV k)).p cs W) : ∃ u, cs[1]? = some u ∧ NatV W u k.natAbs := by
  obtain ⟨A, n, c, rfl, l, h1, h2⟩ := nv_cells h
  exact ⟨_, rfl, A, n, c, l, rfl, h1, h2⟩
theorem nv_neg {k : Int} (cs : List Value) (W : World) (h : (CU.agg (fNV k)).p cs W) : ∃ u, cs[0]? = some u ∧ u = .bool (decide (k < 0)) := by
  obtain ⟨A, n, c, rfl, l, h1, h2⟩ := nv_cells h
  exact ⟨_, rfl, rfl⟩
/-- A box of an integer is laid, is stored. -/
theorem uv_box {m : Nat} {k : Int} {v : Value} {W : World} (h : (fUV m k).p v W) : (CU.agg (fUV m k)).p v.cells.toList W ∧ v.cells.toList.all noLimb = true := by
  obtain ⟨s, A, n, c, l, rfl, h1⟩ := h
  exact ⟨⟨s, A, n, c, l, rfl, h1⟩, rfl⟩
theorem nv_box {k : Int} {v : Value} {W : World} (h : (fNV k).p v W) : (CU.agg (fNV k)).p v.cells.toList W ∧ v.cells.toList.all noLimb = true := by
  obtain ⟨A, n, c, l, rfl, h1⟩ := h
  exact ⟨⟨A, n, c, l, rfl, h1⟩, rfl⟩
theorem nv_store {k : Int} (v : Value) (W : World) (h : (fNV k).p v W) : ∃ vs : List Value, v = .agg vs.toArray ∧ vs.length = 2 ∧ (∀ u, u ∈ vs → u.oneCell' = true) ∧ vs.all noLimb = true ∧ (CU.agg (fNV k)).p vs W := by
  obtain ⟨A, n, c, l, rfl, h1⟩ := h
  exact ⟨[_, _], rfl, rfl, fun u hu => by simp at hu; rcases hu with rfl | rfl <;> rfl, rfl, A, n, c, l, rfl, h1⟩
theorem NV.nat {W : World} {v : Value} {k : Int} (h : NV W v k) : ∃ A n c, v = .agg #[.bool (decide (k < 0)), .slice A n c] ∧ NatV W (.slice A n c) k.natAbs := by
  obtain ⟨A, n, c, l, rfl, h1, h2⟩ := h
  exact ⟨A, n, c, rfl, A, n, c, l, rfl, h1, h2⟩

theorem bInt (s : Bool) (A : Option Addr) (n c : Nat) : Try.prog.built 25 [(0, .bool s), (1, .slice A n c)] = some #[.bool s, .slice A n c] := by kernel_rfl
theorem b_int {s : Bool} {u v : Value} {W : World} {m x : Nat} (hu : u = .bool s) (hv : NatV W v x) (hx : x < BB ^ m) : ∃ cells, Try.prog.built 25 [(0, u), (1, v)] = some cells ∧ UV W m (.agg cells) (if s then -(x : Int) else x) := by
  obtain ⟨A, n, c, l, rfl, h1, h2⟩ := hv
  subst hu
  refine ⟨_, bInt s A n c, s, A, n, c, l, rfl, h2, h1.lt, by rw [← h2.len]; exact h1.len hx, ?_⟩
  unfold iv
  rw [h1.val]
theorem s_int2 (s s' : Bool) (A A' : Option Addr) (n n' c c' : Nat) : sliceCells Try.prog 44 2 [(0, .agg #[.bool s, .slice A n c]), (1, .agg #[.bool s', .slice A' n' c'])] = some (25, #[.bool s, .slice A n c, .bool s', .slice A' n' c']) := by kernel_rfl
theorem sl_int2 {u v : Value} {W : World} {m : Nat} {k k' : Int} (hu : UV W m u k) (hv : UV W m v k') : ∃ e cs, sliceCells Try.prog 44 2 [(0, u), (1, v)] = some (e, cs) ∧ ISV (W.alloc (.cells cs e)) m (.slice (some ⟨W.heap.size, 0, none⟩) 2 2) [k, k'] := by
  obtain ⟨s, A, n, c, l, rfl, h1, h2, h3, rfl⟩ := hu
  obtain ⟨s', A', n', c', l', rfl, h1', h2', h3', rfl⟩ := hv
  exact ⟨_, _, s_int2 s s' A A' n n' c c', ISV.two ⟨s, A, n, c, l, rfl, h1, h2, h3, rfl⟩ ⟨s', A', n', c', l', rfl, h1', h2', h3', rfl⟩ _⟩
def fISV (m : Nat) (ks : List Int) : SF := ⟨fun v W => ISV W m v ks, fun _ _ _ h hb => h.below hb⟩
/-- The length of a number's slice. -/
def fLen (x : Nat) : SF := ⟨fun v _ => ∃ n : Nat, v = .int .i64 n ∧ (x = 0 ↔ n = 0), fun _ _ _ h _ => h⟩
section
variable {F : Fence} {m : Nat} {P : Program} {w0 : World} {ops : Array Oper} {G : Nat → SF} {d : Tmp} {ty : TypeId} {pos : String} {aft : Array Edge}
/-- The length of a slice. -/
theorem ok_len {x : Operand} {t : TypeId} (ht : P.underlying t = some (.slice (P.elem t))) (h : ∀ v W, (fct G x).p v W → ∃ A n c, v = .slice A n c ∧ (G d).p (.int .i64 (n : Nat)) W) : GdOK F m P w0 ops G ⟨some d, .call ⟨.builtin .len, #[x], #[t]⟩, ty, pos, aft, none⟩ := by
  intro b W K Q hb hr hK
  obtain ⟨A, n, c, e, hd⟩ := h _ _ (fct_holds hr (x := x) (by simp [Op.operands, Call.operands]))
  refine ⟨fun f hf => (by
    unfold Oper.about at hf
    simp [resolve, go_sem] at hf), ?_⟩
  rw [Oper.semAt_eq _ _ _ (fun _ e => by cases e)]
  have : (execOp b.eval ⟨some d, .call ⟨.builtin .len, #[x], #[t]⟩, ty, pos, aft, none⟩).run P W = .ok (.value (.int .i64 (n : Nat))) W := by
    simp [execOp, resolve, invoke, builtin, e, run_len_slice _ _ _ _ _ _ ht, goInt]
  rw [this]
  exact hK _ _ (fun d' e' => by cases e'; exact hd) (Below.refl _ _)
theorem ok_lenN {x : Operand} {t : TypeId} {k : Nat} (ht : P.underlying t = some (.slice (P.elem t))) (hx : ∀ v W, (fct G x).p v W → NatV W v k) (hd : ∀ v W, (fLen k).p v W → (G d).p v W := by exact fun _ _ h => h) : GdOK F m P w0 ops G ⟨some d, .call ⟨.builtin .len, #[x], #[t]⟩, ty, pos, aft, none⟩ :=
  ok_len ht fun v W h => by
    obtain ⟨A, n, c, l, e, h1, h2⟩ := hx v W h
    exact ⟨A, n, c, e, hd _ _ ⟨n, rfl, by rw [← h2.len]; exact h1.zero_iff⟩⟩
theorem ok_bin' {op : BinOp} {t : TypeId} {x y : Operand} {t' : TypeId} (h : ∀ u v W, (fct G x).p u W → (fct G y).p v W → ∃ r, (∀ W, (eqGuard op t x y u v).run P W = .ok () W) ∧ (∀ W, (binOp op t u v).run P W = .ok r W) ∧ (G d).p r W) : GdOK F m P w0 ops G ⟨some d, .binOp op t x y t', ty, pos, aft, none⟩ :=
  ok_pure (fun _ e => by cases e) (fun _ e => by cases e) fun b W hb hh => by
    obtain ⟨r, h1, h2, h3⟩ := h _ _ W (hh x (by simp [Op.operands])) (hh y (by simp [Op.operands]))
    exact ⟨r, by simp [execOp, h1, h2], h3⟩
/-- A number's length against nought. -/
theorem ok_gtr0 {t : TypeId} {x : Operand} {t' : TypeId} {k : Nat} {b : Bool} (hb : b = decide (0 < k)) (hx : ∀ v W, (fct G x).p v W → (fLen k).p v W := by exact fun _ _ h => h) (hd : ∀ W, (G d).p (.bool b) W := by exact fun _ => rfl) : GdOK F m P w0 ops G ⟨some d, .binOp .gtr t x (.const (.int .i64 0)) t', ty, pos, aft, none⟩ :=
  ok_bin' fun u v W hu hv => by
    obtain ⟨n, rfl, h1⟩ := hx u W hu
    obtain rfl : v = .int .i64 0 := hv
    refine ⟨.bool b, fun _ => rfl, fun _ => ?_, hd W⟩
    have h2 : decide (0 < n) = b := by
      rw [hb]
      by_cases e : k = 0
      · have := h1.1 e
        subst this
        rw [e]
      · have : n ≠ 0 := fun h => e (h1.2 h)
        rw [decide_eq_true (by omega), decide_eq_true (by omega)]
    simp [binOp, Op.intCmp, h2]
end
end Go.Proofs.Wd

namespace Go.Proofs.Wd
open Go.RowKit Lb

def fDV (k k' : Int) : SF := ⟨fun v W => ∃ q r v1 v2, v = .tuple #[v1, v2, .int .i64 0] ∧ k = q * k' + r ∧ FloorRest r k' ∧ NV W v1 q ∧ NV W v2 r, fun _ _ _ ⟨q, r, v1, v2, h1, h2, h3, h4, h5⟩ hb => ⟨q, r, v1, v2, h1, h2, h3, h4.below hb, h5.below hb⟩⟩

set_option maxRecDepth 100000 in
theorem r5div_a {W : World} {m : Nat} {v v' : Value} {k k' q0 : Int} {N R : Nat} (h : UV W m v k) (h' : UV W m v' k') (hm : m ≤ 1000) (h0 : k' ≠ 0) (hN : k.natAbs / k'.natAbs = N) (hR : k.natAbs % k'.natAbs = R) (hsb : ∀ W, (binOp .neq 4 (.bool (decide (k < 0))) (.bool (decide (k' < 0)))).run Try.prog W = .ok (.bool false) W) (hrb : false = decide (0 < R)) (hq0 : (if false then -(N : Int) else N) = q0) (hfr : FloorRest (k - q0 * k') k') : Calls Try.prog 29 #[v, v'] W (Ret W (fDV k k')) := by
  have hmix : Try.prog.follows .mixedOrders = true := by kernel_rfl
  have bk : Bd k m := h.bd; have bk' : Bd k' m := h'.bd
  have hNm : N < BB ^ m := by rw [← hN]; exact Nat.lt_of_le_of_lt (Nat.div_le_self _ _) bk
  have bq0 : Bd q0 m := by unfold Bd; rw [← hq0, show (if false then -(N : Int) else N).natAbs = N from by simp]; exact hNm
  have hm0 : 0 < m := Nat.pos_of_ne_zero fun e => by subst e; unfold Bd at bk'; rw [Nat.pow_zero] at bk'; omega
  have b1 : Bd 1 m := Nat.lt_of_lt_of_le (show (1 : Int).natAbs < BB ^ 1 by decide) (Nat.pow_le_pow_right BB_pos (by omega))
  have bqk : Bd (q0 * k') (m + 1 + m) := Bd.mul (bq0.mono (by omega)) bk'
  have hdv : ∀ W u0 u1, LV W m u0 k.natAbs → LV W m u1 k'.natAbs → Calls Try.prog 51 #[u0, u1] W (Ret W (SF.tup3 (fNat N).toSF (fNat R).toSF (UF.eq (.int .i64 0)).toSF)) := fun W u0 u1 h1 h2 => by
    refine (rdiv_v h1 h2 (by omega) (Int.natAbs_pos.2 h0)).mono ?_
    rintro e w' ⟨v1, v2, rfl, h3, h4, hb⟩
    rw [hN] at h3; rw [hR] at h4
    exact ⟨_, rfl, ⟨v1, v2, _, rfl, h3, h4, rfl⟩, hb⟩
  have en_51 : Enters Try.prog 51 := enters_of Try.func51 (by kernel_rfl) rfl
  have en_15 : Enters Try.prog 15 := enters_of Try.func15 (by kernel_rfl) rfl
  have en_16 : Enters Try.prog 16 := enters_of Try.func16 (by kernel_rfl) rfl
  have en_34 : Enters Try.prog 34 := enters_of Try.func34 (by kernel_rfl) rfl
  have hbi : ∀ u v W, u = .bool false → NatV W v N → ∃ cells, Try.prog.built 25 [(0, u), (1, v)] = some cells ∧ UV W m (.agg cells) q0 := fun u v W hu hv => by
    have := b_int hu hv hNm
    rw [hq0] at this
    exact this
  refine run_st [(fUV m k).toSF, (fUV m k').toSF] Try.func29 rfl (by kernel_rfl) ⟨h, h', trivial⟩ fun a s => ?_
  refine wpIn_seq ?_
  refine region_go 0 [] hmix s (by kernel_rfl)
    obs_nil fun a w s => ?_
  refine t_box (CU.agg (fUV (m) (k))) rfl s (by kernel_rfl) (fun v W h => uv_box h) fun a w s => ?_
  refine t_box (CU.agg (fUV (m) (k'))) rfl s (by kernel_rfl) (fun v W h => uv_box h) fun a w s => ?_
  refine t_alloc (CU.len 2) (cs := [.bool false, .slice none 0 0]) (by kernel_rfl) rfl s (by kernel_rfl) (fun W => rfl) rfl fun a w s => ?_
  refine t_alloc (CU.len 2) (cs := [.bool false, .slice none 0 0]) (by kernel_rfl) rfl s (by kernel_rfl) (fun W => rfl) rfl fun a w s => ?_
  refine t_set (UF.eq (.int .i64 (0))) rfl s (by kernel_rfl) (fun _ _ h => h) fun a w s => ?_
  refine tail_end rfl ?_
  refine wpIn_seq ?_
  refine region_go 12 [(12, .s (SF.ptr ((CU.agg (fUV (m) (k))).cf.at 1))), (13, .s ((fLV (m) ((k).natAbs)).toSF)), (14, .s (SF.ptr ((CU.agg (fUV (m) (k'))).cf.at 1))), (15, .s ((fLV (m) ((k').natAbs)).toSF)), (16, .s (SF.tup3 ((fNat (N)).toSF) ((fNat (R)).toSF) ((UF.eq (.int .i64 (0))).toSF))), (11, .s (SF.tup3 ((fNat (N)).toSF) ((fNat (R)).toSF) ((UF.eq (.int .i64 (0))).toSF))), (17, .s ((fNat (N)).toSF)), (18, .s ((fNat (R)).toSF)), (19, .s ((UF.eq (.int .i64 (0))).toSF)), (7, .u (fNat (N))), (8, .u (fNat (R))), (9, .u (UF.eq (.int .i64 (0))))] hmix s (by kernel_rfl)
    (obs_cons (ok_fld (C := (CU.agg (fUV (m) (k))).cf) 1 (by kernel_rfl)) <|
    obs_cons (ok_ld (C := (CU.agg (fUV (m) (k))).cf) (k := 1) (by kernel_rfl) (h := uv_abs)) <|
    obs_cons (ok_fld (C := (CU.agg (fUV (m) (k'))).cf) 1 (by kernel_rfl)) <|
    obs_cons (ok_ld (C := (CU.agg (fUV (m) (k'))).cf) (k := 1) (by kernel_rfl) (h := uv_abs)) <|
    obs_cons (ok_call2 wide_wide en_51 (fun u0 u1 W hb (h0 : LV W (m) u0 ((k).natAbs)) (h1 : LV W (m) u1 ((k').natAbs)) => hdv W u0 u1 h0 h1)) <|
    obs_cons (ok_move) <|
    obs_cons (ok_ext30 (A := (fNat (N)).toSF) (B := (fNat (R)).toSF) (C := (UF.eq (.int .i64 (0))).toSF) (fun _ _ h => h)) <|
    obs_cons (ok_ext31 (A := (fNat (N)).toSF) (B := (fNat (R)).toSF) (C := (UF.eq (.int .i64 (0))).toSF) (fun _ _ h => h)) <|
    obs_cons (ok_ext32 (A := (fNat (N)).toSF) (B := (fNat (R)).toSF) (C := (UF.eq (.int .i64 (0))).toSF) (fun _ _ h => h)) <|
    obs_cons (ok_assign) <|
    obs_cons (ok_assign) <|
    obs_cons (ok_assign) <| obs_nil) fun a w s => ?_
  refine tail_end rfl ?_
  refine wpIn_seq ?_
  refine wpIn_seq ?_
  refine region_go 2 [(20, .s ((UF.eq (.int .i64 (0))).toSF)), (21, .u (UF.eq (.bool false)))] hmix s (by kernel_rfl)
    (obs_cons (ok_move) <|
    obs_cons (ok_bin (.int .i64 0) (.int .i64 0) (.bool false) (fun _ _ h => h) (fun _ _ h => h) (fun _ => rfl) (fun _ => rfl) (fun _ => rfl)) <| obs_nil) fun a w s => ?_
  refine tail_end rfl ?_
  refine St.cond s false (fun _ _ h => h) (fun e => by cases e) (fun e => ?_)
  refine wpIn_skip ?_
  refine wpIn_seq ?_
  refine region_go 4 [(25, .s ((fUV (m) (k)).toSF)), (26, .u (fNV (k))), (27, .s ((fUV (m) (k')).toSF)), (28, .u (fNV (k')))] hmix s (by kernel_rfl)
    (obs_cons (ok_ldW (f := fUV (m) (k)) 2 (by kernel_rfl) (hz := uv_len _ _)) <|
    obs_cons (ok_call1 wide_wide en_16 (fun u0 W hb (h0 : UV W (m) u0 (k)) => r5norm_w h0 (by omega))) <|
    obs_cons (ok_ldW (f := fUV (m) (k')) 2 (by kernel_rfl) (hz := uv_len _ _)) <|
    obs_cons (ok_call1 wide_wide en_16 (fun u0 W hb (h0 : UV W (m) u0 (k')) => r5norm_w h0 (by omega))) <| obs_nil) fun a w s => ?_
  refine t_store (CU.agg (fNV (k))) ((fNV (k)).toSF) rfl s (by kernel_rfl) ⟨_, .tail _ (.tail _ (.tail _ (.head _))), rfl, rfl, uv_len _ _⟩ (fun _ _ h => h) (nv_store) fun a w s => ?_
  refine t_store (CU.agg (fNV (k'))) ((fNV (k')).toSF) rfl s (by kernel_rfl) ⟨_, .tail _ (.tail _ (.head _)), rfl, rfl, uv_len _ _⟩ (fun _ _ h => h) (nv_store) fun a w s => ?_
  refine tail_end rfl ?_
  refine wpIn_seq ?_
  refine region_go 8 [(29, .s (SF.ptr ((CU.agg (fNV (k))).cf.at 0))), (30, .s ((UF.eq (.bool (decide (k < 0)))).toSF)), (31, .s (SF.ptr ((CU.agg (fNV (k'))).cf.at 0))), (32, .s ((UF.eq (.bool (decide (k' < 0)))).toSF)), (33, .s ((UF.eq (.bool false)).toSF)), (34, .s ((fNat (N)).toSF)), (35, .s ((fUV (m) (q0)).toSF)), (36, .u (fNV (q0)))] hmix s (by kernel_rfl)
    (obs_cons (ok_fld (C := (CU.agg (fNV (k))).cf) 0 (by kernel_rfl)) <|
    obs_cons (ok_ld (C := (CU.agg (fNV (k))).cf) (k := 0) (by kernel_rfl) (h := nv_neg)) <|
    obs_cons (ok_fld (C := (CU.agg (fNV (k'))).cf) 0 (by kernel_rfl)) <|
    obs_cons (ok_ld (C := (CU.agg (fNV (k'))).cf) (k := 0) (by kernel_rfl) (h := nv_neg)) <|
    obs_cons (ok_bin (.bool (decide (k < 0))) (.bool (decide (k' < 0))) (.bool false) (fun _ _ h => h) (fun _ _ h => h) (fun _ => rfl) hsb (fun _ => rfl)) <|
    obs_cons (ok_move) <|
    obs_cons (ok_build2 hbi) <|
    obs_cons (ok_call1 wide_wide en_16 (fun u0 W hb (h0 : UV W (m) u0 (q0)) => r5norm_w h0 (by omega))) <| obs_nil) fun a w s => ?_
  refine t_alloc (CU.len 2) (cs := [.bool false, .slice none 0 0]) (by kernel_rfl) rfl s (by kernel_rfl) (fun W => rfl) rfl fun a w s => ?_
  refine t_store (CU.agg (fNV (q0))) ((fNV (q0)).toSF) rfl s (by kernel_rfl) ⟨_, .head _, rfl, rfl, fun _ _ h => h⟩ (fun _ _ h => h) (nv_store) fun a w s => ?_
  refine tail_end rfl ?_
  refine wpIn_seq ?_
  refine wpIn_seq ?_
  refine region_go 10 [(37, .s (SF.ptr ((CU.agg (fNV (k))).cf.at 0))), (38, .s ((UF.eq (.bool (decide (k < 0)))).toSF)), (39, .s (SF.ptr ((CU.agg (fNV (k'))).cf.at 0))), (40, .s ((UF.eq (.bool (decide (k' < 0)))).toSF)), (41, .s ((UF.eq (.bool false)).toSF)), (42, .s ((UF.eq (.bool false)).toSF)), (46, .u (UF.eq (.bool false)))] hmix s (by kernel_rfl)
    (obs_cons (ok_fld (C := (CU.agg (fNV (k))).cf) 0 (by kernel_rfl)) <|
    obs_cons (ok_ld (C := (CU.agg (fNV (k))).cf) (k := 0) (by kernel_rfl) (h := nv_neg)) <|
    obs_cons (ok_fld (C := (CU.agg (fNV (k'))).cf) 0 (by kernel_rfl)) <|
    obs_cons (ok_ld (C := (CU.agg (fNV (k'))).cf) (k := 0) (by kernel_rfl) (h := nv_neg)) <|
    obs_cons (ok_bin (.bool (decide (k < 0))) (.bool (decide (k' < 0))) (.bool false) (fun _ _ h => h) (fun _ _ h => h) (fun _ => rfl) hsb (fun _ => rfl)) <|
    obs_cons (ok_move) <|
    obs_cons (ok_guard 42 false (by kernel_rfl) (fun _ _ h => h) (fun e => by cases e) (fun _ _ => trivial)) <|
    obs_cons (ok_guard 42 false (by kernel_rfl) (fun _ _ h => h) (fun e => by cases e) (fun _ _ => trivial)) <|
    obs_cons (ok_guard 42 false (by kernel_rfl) (fun _ _ h => h) (fun e => by cases e) (fun _ _ => trivial)) <|
    obs_cons (ok_pick false (fun _ _ h => h) (fun e => by cases e) (fun _ _ _ h => h)) <| obs_nil) fun a w s => ?_
  refine tail_end rfl ?_
  refine St.cond s false (fun _ _ h => h) (fun e => by cases e) (fun e => ?_)
  refine wpIn_skip ?_
  refine wpIn_seq ?_
  replace s := s.drop [6]
  refine region_go 7 [(50, .u (fNV (q0))), (51, .s ((fNV (k)).toSF)), (52, .s ((fNV (q0)).toSF)), (53, .s ((fNV (k')).toSF)), (54, .s (fISV (m + 1) [q0, k'])), (55, .s ((fNV ((q0 * k'))).toSF)), (56, .u (fNV ((k - q0 * k'))))] hmix s (by kernel_rfl)
    (obs_cons (ok_ldW (f := fNV (q0)) 2 (by kernel_rfl) (hz := nv_len _)) <|
    obs_cons (ok_ldW (f := fNV (k)) 2 (by kernel_rfl) (hz := nv_len _)) <|
    obs_cons (ok_ldW (f := fNV (q0)) 2 (by kernel_rfl) (hz := nv_len _)) <|
    obs_cons (ok_ldW (f := fNV (k')) 2 (by kernel_rfl) (hz := nv_len _)) <|
    obs_cons (ok_slice2 (fun u v W (hu : NV W u (q0)) (hv : NV W v (k')) => sl_int2 (NV.uv' hu (Bd.mono bq0 (m' := (m + 1)) (by first | omega | decide))) (NV.uv' hv (Bd.mono bk' (m' := (m + 1)) (by first | omega | decide))))) <|
    obs_cons (ok_call1 wide_wide en_15 (fun u0 W hb (h0 : ISV W (m + 1) u0 [q0, k']) => r5mul_w h0 (by show (m + 1) * 2 + (m + 1) + 1 ≤ 40000; omega) (by simp) (by simp))) <|
    obs_cons (ok_call2 wide_wide en_34 (fun u0 u1 W hb (h0 : NV W u0 (k)) (h1 : NV W u1 ((q0 * k'))) => r5sub_v (NV.uv' h0 (Bd.mono bk (m' := (m + 1 + m)) (by first | omega | decide))) (NV.uv' h1 bqk) (by omega))) <| obs_nil) fun a w s => ?_
  refine t_store (CU.agg (fNV (q0))) ((fNV (q0)).toSF) rfl s (by kernel_rfl) ⟨_, .tail _ (.tail _ (.head _)), rfl, rfl, fun _ _ h => h⟩ (fun _ _ h => h) (nv_store) fun a w s => ?_
  refine t_store (CU.agg (fNV ((k - q0 * k')))) ((fNV ((k - q0 * k'))).toSF) rfl s (by kernel_rfl) ⟨_, .tail _ (.head _), rfl, rfl, fun _ _ h => h⟩ (fun _ _ h => h) (nv_store) fun a w s => ?_
  refine t_set (UF.eq (.int .i64 (0))) rfl s (by kernel_rfl) (fun _ _ h => h) fun a w s => ?_
  refine tail_end rfl ?_
  refine wpIn_ret ?_
  refine St.resCCT s (CU.agg (fNV q0)) (CU.agg (fNV (k - q0 * k'))) rfl (by kernel_rfl) (by kernel_rfl) ⟨_, .tail _ (.tail _ (.head _)), rfl, rfl, nv_len _⟩ ⟨_, .tail _ (.head _), rfl, rfl, nv_len _⟩ (fun cs cs' v W h1 h2 h3 => ?_)
  exact ⟨q0, _, _, _, by rw [show v = _ from h3], by omega, hfr, h1, h2⟩

set_option maxRecDepth 100000 in
theorem r5div_b {W : World} {m : Nat} {v v' : Value} {k k' q0 : Int} {N R : Nat} (h : UV W m v k) (h' : UV W m v' k') (hm : m ≤ 1000) (h0 : k' ≠ 0) (hN : k.natAbs / k'.natAbs = N) (hR : k.natAbs % k'.natAbs = R) (hsb : ∀ W, (binOp .neq 4 (.bool (decide (k < 0))) (.bool (decide (k' < 0)))).run Try.prog W = .ok (.bool false) W) (hrb : true = decide (0 < R)) (hq0 : (if false then -(N : Int) else N) = q0) (hfr : FloorRest (k - q0 * k') k') : Calls Try.prog 29 #[v, v'] W (Ret W (fDV k k')) := by
  have hmix : Try.prog.follows .mixedOrders = true := by kernel_rfl
  have bk : Bd k m := h.bd; have bk' : Bd k' m := h'.bd
  have hNm : N < BB ^ m := by rw [← hN]; exact Nat.lt_of_le_of_lt (Nat.div_le_self _ _) bk
  have bq0 : Bd q0 m := by unfold Bd; rw [← hq0, show (if false then -(N : Int) else N).natAbs = N from by simp]; exact hNm
  have hm0 : 0 < m := Nat.pos_of_ne_zero fun e => by subst e; unfold Bd at bk'; rw [Nat.pow_zero] at bk'; omega
  have b1 : Bd 1 m := Nat.lt_of_lt_of_le (show (1 : Int).natAbs < BB ^ 1 by decide) (Nat.pow_le_pow_right BB_pos (by omega))
  have bqk : Bd (q0 * k') (m + 1 + m) := Bd.mul (bq0.mono (by omega)) bk'
  have hdv : ∀ W u0 u1, LV W m u0 k.natAbs → LV W m u1 k'.natAbs → Calls Try.prog 51 #[u0, u1] W (Ret W (SF.tup3 (fNat N).toSF (fNat R).toSF (UF.eq (.int .i64 0)).toSF)) := fun W u0 u1 h1 h2 => by
    refine (rdiv_v h1 h2 (by omega) (Int.natAbs_pos.2 h0)).mono ?_
    rintro e w' ⟨v1, v2, rfl, h3, h4, hb⟩
    rw [hN] at h3; rw [hR] at h4
    exact ⟨_, rfl, ⟨v1, v2, _, rfl, h3, h4, rfl⟩, hb⟩
  have en_51 : Enters Try.prog 51 := enters_of Try.func51 (by kernel_rfl) rfl
  have en_15 : Enters Try.prog 15 := enters_of Try.func15 (by kernel_rfl) rfl
  have en_16 : Enters Try.prog 16 := enters_of Try.func16 (by kernel_rfl) rfl
  have en_34 : Enters Try.prog 34 := enters_of Try.func34 (by kernel_rfl) rfl
  have hbi : ∀ u v W, u = .bool false → NatV W v N → ∃ cells, Try.prog.built 25 [(0, u), (1, v)] = some cells ∧ UV W m (.agg cells) q0 := fun u v W hu hv => by
    have := b_int hu hv hNm
    rw [hq0] at this
    exact this
  refine run_st [(fUV m k).toSF, (fUV m k').toSF] Try.func29 rfl (by kernel_rfl) ⟨h, h', trivial⟩ fun a s => ?_
  refine wpIn_seq ?_
  refine region_go 0 [] hmix s (by kernel_rfl)
    obs_nil fun a w s => ?_
  refine t_box (CU.agg (fUV (m) (k))) rfl s (by kernel_rfl) (fun v W h => uv_box h) fun a w s => ?_
  refine t_box (CU.agg (fUV (m) (k'))) rfl s (by kernel_rfl) (fun v W h => uv_box h) fun a w s => ?_
  refine t_alloc (CU.len 2) (cs := [.bool false, .slice none 0 0]) (by kernel_rfl) rfl s (by kernel_rfl) (fun W => rfl) rfl fun a w s => ?_
  refine t_alloc (CU.len 2) (cs := [.bool false, .slice none 0 0]) (by kernel_rfl) rfl s (by kernel_rfl) (fun W => rfl) rfl fun a w s => ?_
  refine t_set (UF.eq (.int .i64 (0))) rfl s (by kernel_rfl) (fun _ _ h => h) fun a w s => ?_
  refine tail_end rfl ?_
  refine wpIn_seq ?_
  refine region_go 12 [(12, .s (SF.ptr ((CU.agg (fUV (m) (k))).cf.at 1))), (13, .s ((fLV (m) ((k).natAbs)).toSF)), (14, .s (SF.ptr ((CU.agg (fUV (m) (k'))).cf.at 1))), (15, .s ((fLV (m) ((k').natAbs)).toSF)), (16, .s (SF.tup3 ((fNat (N)).toSF) ((fNat (R)).toSF) ((UF.eq (.int .i64 (0))).toSF))), (11, .s (SF.tup3 ((fNat (N)).toSF) ((fNat (R)).toSF) ((UF.eq (.int .i64 (0))).toSF))), (17, .s ((fNat (N)).toSF)), (18, .s ((fNat (R)).toSF)), (19, .s ((UF.eq (.int .i64 (0))).toSF)), (7, .u (fNat (N))), (8, .u (fNat (R))), (9, .u (UF.eq (.int .i64 (0))))] hmix s (by kernel_rfl)
    (obs_cons (ok_fld (C := (CU.agg (fUV (m) (k))).cf) 1 (by kernel_rfl)) <|
    obs_cons (ok_ld (C := (CU.agg (fUV (m) (k))).cf) (k := 1) (by kernel_rfl) (h := uv_abs)) <|
    obs_cons (ok_fld (C := (CU.agg (fUV (m) (k'))).cf) 1 (by kernel_rfl)) <|
    obs_cons (ok_ld (C := (CU.agg (fUV (m) (k'))).cf) (k := 1) (by kernel_rfl) (h := uv_abs)) <|
    obs_cons (ok_call2 wide_wide en_51 (fun u0 u1 W hb (h0 : LV W (m) u0 ((k).natAbs)) (h1 : LV W (m) u1 ((k').natAbs)) => hdv W u0 u1 h0 h1)) <|
    obs_cons (ok_move) <|
    obs_cons (ok_ext30 (A := (fNat (N)).toSF) (B := (fNat (R)).toSF) (C := (UF.eq (.int .i64 (0))).toSF) (fun _ _ h => h)) <|
    obs_cons (ok_ext31 (A := (fNat (N)).toSF) (B := (fNat (R)).toSF) (C := (UF.eq (.int .i64 (0))).toSF) (fun _ _ h => h)) <|
    obs_cons (ok_ext32 (A := (fNat (N)).toSF) (B := (fNat (R)).toSF) (C := (UF.eq (.int .i64 (0))).toSF) (fun _ _ h => h)) <|
    obs_cons (ok_assign) <|
    obs_cons (ok_assign) <|
    obs_cons (ok_assign) <| obs_nil) fun a w s => ?_
  refine tail_end rfl ?_
  refine wpIn_seq ?_
  refine wpIn_seq ?_
  refine region_go 2 [(20, .s ((UF.eq (.int .i64 (0))).toSF)), (21, .u (UF.eq (.bool false)))] hmix s (by kernel_rfl)
    (obs_cons (ok_move) <|
    obs_cons (ok_bin (.int .i64 0) (.int .i64 0) (.bool false) (fun _ _ h => h) (fun _ _ h => h) (fun _ => rfl) (fun _ => rfl) (fun _ => rfl)) <| obs_nil) fun a w s => ?_
  refine tail_end rfl ?_
  refine St.cond s false (fun _ _ h => h) (fun e => by cases e) (fun e => ?_)
  refine wpIn_skip ?_
  refine wpIn_seq ?_
  refine region_go 4 [(25, .s ((fUV (m) (k)).toSF)), (26, .u (fNV (k))), (27, .s ((fUV (m) (k')).toSF)), (28, .u (fNV (k')))] hmix s (by kernel_rfl)
    (obs_cons (ok_ldW (f := fUV (m) (k)) 2 (by kernel_rfl) (hz := uv_len _ _)) <|
    obs_cons (ok_call1 wide_wide en_16 (fun u0 W hb (h0 : UV W (m) u0 (k)) => r5norm_w h0 (by omega))) <|
    obs_cons (ok_ldW (f := fUV (m) (k')) 2 (by kernel_rfl) (hz := uv_len _ _)) <|
    obs_cons (ok_call1 wide_wide en_16 (fun u0 W hb (h0 : UV W (m) u0 (k')) => r5norm_w h0 (by omega))) <| obs_nil) fun a w s => ?_
  refine t_store (CU.agg (fNV (k))) ((fNV (k)).toSF) rfl s (by kernel_rfl) ⟨_, .tail _ (.tail _ (.tail _ (.head _))), rfl, rfl, uv_len _ _⟩ (fun _ _ h => h) (nv_store) fun a w s => ?_
  refine t_store (CU.agg (fNV (k'))) ((fNV (k')).toSF) rfl s (by kernel_rfl) ⟨_, .tail _ (.tail _ (.head _)), rfl, rfl, uv_len _ _⟩ (fun _ _ h => h) (nv_store) fun a w s => ?_
  refine tail_end rfl ?_
  refine wpIn_seq ?_
  refine region_go 8 [(29, .s (SF.ptr ((CU.agg (fNV (k))).cf.at 0))), (30, .s ((UF.eq (.bool (decide (k < 0)))).toSF)), (31, .s (SF.ptr ((CU.agg (fNV (k'))).cf.at 0))), (32, .s ((UF.eq (.bool (decide (k' < 0)))).toSF)), (33, .s ((UF.eq (.bool false)).toSF)), (34, .s ((fNat (N)).toSF)), (35, .s ((fUV (m) (q0)).toSF)), (36, .u (fNV (q0)))] hmix s (by kernel_rfl)
    (obs_cons (ok_fld (C := (CU.agg (fNV (k))).cf) 0 (by kernel_rfl)) <|
    obs_cons (ok_ld (C := (CU.agg (fNV (k))).cf) (k := 0) (by kernel_rfl) (h := nv_neg)) <|
    obs_cons (ok_fld (C := (CU.agg (fNV (k'))).cf) 0 (by kernel_rfl)) <|
    obs_cons (ok_ld (C := (CU.agg (fNV (k'))).cf) (k := 0) (by kernel_rfl) (h := nv_neg)) <|
    obs_cons (ok_bin (.bool (decide (k < 0))) (.bool (decide (k' < 0))) (.bool false) (fun _ _ h => h) (fun _ _ h => h) (fun _ => rfl) hsb (fun _ => rfl)) <|
    obs_cons (ok_move) <|
    obs_cons (ok_build2 hbi) <|
    obs_cons (ok_call1 wide_wide en_16 (fun u0 W hb (h0 : UV W (m) u0 (q0)) => r5norm_w h0 (by omega))) <| obs_nil) fun a w s => ?_
  refine t_alloc (CU.len 2) (cs := [.bool false, .slice none 0 0]) (by kernel_rfl) rfl s (by kernel_rfl) (fun W => rfl) rfl fun a w s => ?_
  refine t_store (CU.agg (fNV (q0))) ((fNV (q0)).toSF) rfl s (by kernel_rfl) ⟨_, .head _, rfl, rfl, fun _ _ h => h⟩ (fun _ _ h => h) (nv_store) fun a w s => ?_
  refine tail_end rfl ?_
  refine wpIn_seq ?_
  refine wpIn_seq ?_
  refine region_go 10 [(37, .s (SF.ptr ((CU.agg (fNV (k))).cf.at 0))), (38, .s ((UF.eq (.bool (decide (k < 0)))).toSF)), (39, .s (SF.ptr ((CU.agg (fNV (k'))).cf.at 0))), (40, .s ((UF.eq (.bool (decide (k' < 0)))).toSF)), (41, .s ((UF.eq (.bool false)).toSF)), (42, .s ((UF.eq (.bool false)).toSF)), (46, .u (UF.eq (.bool false)))] hmix s (by kernel_rfl)
    (obs_cons (ok_fld (C := (CU.agg (fNV (k))).cf) 0 (by kernel_rfl)) <|
    obs_cons (ok_ld (C := (CU.agg (fNV (k))).cf) (k := 0) (by kernel_rfl) (h := nv_neg)) <|
    obs_cons (ok_fld (C := (CU.agg (fNV (k'))).cf) 0 (by kernel_rfl)) <|
    obs_cons (ok_ld (C := (CU.agg (fNV (k'))).cf) (k := 0) (by kernel_rfl) (h := nv_neg)) <|
    obs_cons (ok_bin (.bool (decide (k < 0))) (.bool (decide (k' < 0))) (.bool false) (fun _ _ h => h) (fun _ _ h => h) (fun _ => rfl) hsb (fun _ => rfl)) <|
    obs_cons (ok_move) <|
    obs_cons (ok_guard 42 false (by kernel_rfl) (fun _ _ h => h) (fun e => by cases e) (fun _ _ => trivial)) <|
    obs_cons (ok_guard 42 false (by kernel_rfl) (fun _ _ h => h) (fun e => by cases e) (fun _ _ => trivial)) <|
    obs_cons (ok_guard 42 false (by kernel_rfl) (fun _ _ h => h) (fun e => by cases e) (fun _ _ => trivial)) <|
    obs_cons (ok_pick false (fun _ _ h => h) (fun e => by cases e) (fun _ _ _ h => h)) <| obs_nil) fun a w s => ?_
  refine tail_end rfl ?_
  refine St.cond s false (fun _ _ h => h) (fun e => by cases e) (fun e => ?_)
  refine wpIn_skip ?_
  refine wpIn_seq ?_
  replace s := s.drop [6]
  refine region_go 7 [(50, .u (fNV (q0))), (51, .s ((fNV (k)).toSF)), (52, .s ((fNV (q0)).toSF)), (53, .s ((fNV (k')).toSF)), (54, .s (fISV (m + 1) [q0, k'])), (55, .s ((fNV ((q0 * k'))).toSF)), (56, .u (fNV ((k - q0 * k'))))] hmix s (by kernel_rfl)
    (obs_cons (ok_ldW (f := fNV (q0)) 2 (by kernel_rfl) (hz := nv_len _)) <|
    obs_cons (ok_ldW (f := fNV (k)) 2 (by kernel_rfl) (hz := nv_len _)) <|
    obs_cons (ok_ldW (f := fNV (q0)) 2 (by kernel_rfl) (hz := nv_len _)) <|
    obs_cons (ok_ldW (f := fNV (k')) 2 (by kernel_rfl) (hz := nv_len _)) <|
    obs_cons (ok_slice2 (fun u v W (hu : NV W u (q0)) (hv : NV W v (k')) => sl_int2 (NV.uv' hu (Bd.mono bq0 (m' := (m + 1)) (by first | omega | decide))) (NV.uv' hv (Bd.mono bk' (m' := (m + 1)) (by first | omega | decide))))) <|
    obs_cons (ok_call1 wide_wide en_15 (fun u0 W hb (h0 : ISV W (m + 1) u0 [q0, k']) => r5mul_w h0 (by show (m + 1) * 2 + (m + 1) + 1 ≤ 40000; omega) (by simp) (by simp))) <|
    obs_cons (ok_call2 wide_wide en_34 (fun u0 u1 W hb (h0 : NV W u0 (k)) (h1 : NV W u1 ((q0 * k'))) => r5sub_v (NV.uv' h0 (Bd.mono bk (m' := (m + 1 + m)) (by first | omega | decide))) (NV.uv' h1 bqk) (by omega))) <| obs_nil) fun a w s => ?_
  refine t_store (CU.agg (fNV (q0))) ((fNV (q0)).toSF) rfl s (by kernel_rfl) ⟨_, .tail _ (.tail _ (.head _)), rfl, rfl, fun _ _ h => h⟩ (fun _ _ h => h) (nv_store) fun a w s => ?_
  refine t_store (CU.agg (fNV ((k - q0 * k')))) ((fNV ((k - q0 * k'))).toSF) rfl s (by kernel_rfl) ⟨_, .tail _ (.head _), rfl, rfl, fun _ _ h => h⟩ (fun _ _ h => h) (nv_store) fun a w s => ?_
  refine t_set (UF.eq (.int .i64 (0))) rfl s (by kernel_rfl) (fun _ _ h => h) fun a w s => ?_
  refine tail_end rfl ?_
  refine wpIn_ret ?_
  refine St.resCCT s (CU.agg (fNV q0)) (CU.agg (fNV (k - q0 * k'))) rfl (by kernel_rfl) (by kernel_rfl) ⟨_, .tail _ (.tail _ (.head _)), rfl, rfl, nv_len _⟩ ⟨_, .tail _ (.head _), rfl, rfl, nv_len _⟩ (fun cs cs' v W h1 h2 h3 => ?_)
  exact ⟨q0, _, _, _, by rw [show v = _ from h3], by omega, hfr, h1, h2⟩

set_option maxRecDepth 100000 in
theorem r5div_c {W : World} {m : Nat} {v v' : Value} {k k' q0 : Int} {N R : Nat} (h : UV W m v k) (h' : UV W m v' k') (hm : m ≤ 1000) (h0 : k' ≠ 0) (hN : k.natAbs / k'.natAbs = N) (hR : k.natAbs % k'.natAbs = R) (hsb : ∀ W, (binOp .neq 4 (.bool (decide (k < 0))) (.bool (decide (k' < 0)))).run Try.prog W = .ok (.bool true) W) (hrb : false = decide (0 < R)) (hq0 : (if true then -(N : Int) else N) = q0) (hfr : FloorRest (k - q0 * k') k') : Calls Try.prog 29 #[v, v'] W (Ret W (fDV k k')) := by
  have hmix : Try.prog.follows .mixedOrders = true := by kernel_rfl
  have bk : Bd k m := h.bd; have bk' : Bd k' m := h'.bd
  have hNm : N < BB ^ m := by rw [← hN]; exact Nat.lt_of_le_of_lt (Nat.div_le_self _ _) bk
  have bq0 : Bd q0 m := by unfold Bd; rw [← hq0, show (if true then -(N : Int) else N).natAbs = N from by simp]; exact hNm
  have hm0 : 0 < m := Nat.pos_of_ne_zero fun e => by subst e; unfold Bd at bk'; rw [Nat.pow_zero] at bk'; omega
  have b1 : Bd 1 m := Nat.lt_of_lt_of_le (show (1 : Int).natAbs < BB ^ 1 by decide) (Nat.pow_le_pow_right BB_pos (by omega))
  have bqk : Bd (q0 * k') (m + 1 + m) := Bd.mul (bq0.mono (by omega)) bk'
  have hdv : ∀ W u0 u1, LV W m u0 k.natAbs → LV W m u1 k'.natAbs → Calls Try.prog 51 #[u0, u1] W (Ret W (SF.tup3 (fNat N).toSF (fNat R).toSF (UF.eq (.int .i64 0)).toSF)) := fun W u0 u1 h1 h2 => by
    refine (rdiv_v h1 h2 (by omega) (Int.natAbs_pos.2 h0)).mono ?_
    rintro e w' ⟨v1, v2, rfl, h3, h4, hb⟩
    rw [hN] at h3; rw [hR] at h4
    exact ⟨_, rfl, ⟨v1, v2, _, rfl, h3, h4, rfl⟩, hb⟩
  have en_51 : Enters Try.prog 51 := enters_of Try.func51 (by kernel_rfl) rfl
  have en_15 : Enters Try.prog 15 := enters_of Try.func15 (by kernel_rfl) rfl
  have en_16 : Enters Try.prog 16 := enters_of Try.func16 (by kernel_rfl) rfl
  have en_34 : Enters Try.prog 34 := enters_of Try.func34 (by kernel_rfl) rfl
  have hbi : ∀ u v W, u = .bool true → NatV W v N → ∃ cells, Try.prog.built 25 [(0, u), (1, v)] = some cells ∧ UV W m (.agg cells) q0 := fun u v W hu hv => by
    have := b_int hu hv hNm
    rw [hq0] at this
    exact this
  refine run_st [(fUV m k).toSF, (fUV m k').toSF] Try.func29 rfl (by kernel_rfl) ⟨h, h', trivial⟩ fun a s => ?_
  refine wpIn_seq ?_
  refine region_go 0 [] hmix s (by kernel_rfl)
    obs_nil fun a w s => ?_
  refine t_box (CU.agg (fUV (m) (k))) rfl s (by kernel_rfl) (fun v W h => uv_box h) fun a w s => ?_
  refine t_box (CU.agg (fUV (m) (k'))) rfl s (by kernel_rfl) (fun v W h => uv_box h) fun a w s => ?_
  refine t_alloc (CU.len 2) (cs := [.bool false, .slice none 0 0]) (by kernel_rfl) rfl s (by kernel_rfl) (fun W => rfl) rfl fun a w s => ?_
  refine t_alloc (CU.len 2) (cs := [.bool false, .slice none 0 0]) (by kernel_rfl) rfl s (by kernel_rfl) (fun W => rfl) rfl fun a w s => ?_
  refine t_set (UF.eq (.int .i64 (0))) rfl s (by kernel_rfl) (fun _ _ h => h) fun a w s => ?_
  refine tail_end rfl ?_
  refine wpIn_seq ?_
  refine region_go 12 [(12, .s (SF.ptr ((CU.agg (fUV (m) (k))).cf.at 1))), (13, .s ((fLV (m) ((k).natAbs)).toSF)), (14, .s (SF.ptr ((CU.agg (fUV (m) (k'))).cf.at 1))), (15, .s ((fLV (m) ((k').natAbs)).toSF)), (16, .s (SF.tup3 ((fNat (N)).toSF) ((fNat (R)).toSF) ((UF.eq (.int .i64 (0))).toSF))), (11, .s (SF.tup3 ((fNat (N)).toSF) ((fNat (R)).toSF) ((UF.eq (.int .i64 (0))).toSF))), (17, .s ((fNat (N)).toSF)), (18, .s ((fNat (R)).toSF)), (19, .s ((UF.eq (.int .i64 (0))).toSF)), (7, .u (fNat (N))), (8, .u (fNat (R))), (9, .u (UF.eq (.int .i64 (0))))] hmix s (by kernel_rfl)
    (obs_cons (ok_fld (C := (CU.agg (fUV (m) (k))).cf) 1 (by kernel_rfl)) <|
    obs_cons (ok_ld (C := (CU.agg (fUV (m) (k))).cf) (k := 1) (by kernel_rfl) (h := uv_abs)) <|
    obs_cons (ok_fld (C := (CU.agg (fUV (m) (k'))).cf) 1 (by kernel_rfl)) <|
    obs_cons (ok_ld (C := (CU.agg (fUV (m) (k'))).cf) (k := 1) (by kernel_rfl) (h := uv_abs)) <|
    obs_cons (ok_call2 wide_wide en_51 (fun u0 u1 W hb (h0 : LV W (m) u0 ((k).natAbs)) (h1 : LV W (m) u1 ((k').natAbs)) => hdv W u0 u1 h0 h1)) <|
    obs_cons (ok_move) <|
    obs_cons (ok_ext30 (A := (fNat (N)).toSF) (B := (fNat (R)).toSF) (C := (UF.eq (.int .i64 (0))).toSF) (fun _ _ h => h)) <|
    obs_cons (ok_ext31 (A := (fNat (N)).toSF) (B := (fNat (R)).toSF) (C := (UF.eq (.int .i64 (0))).toSF) (fun _ _ h => h)) <|
    obs_cons (ok_ext32 (A := (fNat (N)).toSF) (B := (fNat (R)).toSF) (C := (UF.eq (.int .i64 (0))).toSF) (fun _ _ h => h)) <|
    obs_cons (ok_assign) <|
    obs_cons (ok_assign) <|
    obs_cons (ok_assign) <| obs_nil) fun a w s => ?_
  refine tail_end rfl ?_
  refine wpIn_seq ?_
  refine wpIn_seq ?_
  refine region_go 2 [(20, .s ((UF.eq (.int .i64 (0))).toSF)), (21, .u (UF.eq (.bool false)))] hmix s (by kernel_rfl)
    (obs_cons (ok_move) <|
    obs_cons (ok_bin (.int .i64 0) (.int .i64 0) (.bool false) (fun _ _ h => h) (fun _ _ h => h) (fun _ => rfl) (fun _ => rfl) (fun _ => rfl)) <| obs_nil) fun a w s => ?_
  refine tail_end rfl ?_
  refine St.cond s false (fun _ _ h => h) (fun e => by cases e) (fun e => ?_)
  refine wpIn_skip ?_
  refine wpIn_seq ?_
  refine region_go 4 [(25, .s ((fUV (m) (k)).toSF)), (26, .u (fNV (k))), (27, .s ((fUV (m) (k')).toSF)), (28, .u (fNV (k')))] hmix s (by kernel_rfl)
    (obs_cons (ok_ldW (f := fUV (m) (k)) 2 (by kernel_rfl) (hz := uv_len _ _)) <|
    obs_cons (ok_call1 wide_wide en_16 (fun u0 W hb (h0 : UV W (m) u0 (k)) => r5norm_w h0 (by omega))) <|
    obs_cons (ok_ldW (f := fUV (m) (k')) 2 (by kernel_rfl) (hz := uv_len _ _)) <|
    obs_cons (ok_call1 wide_wide en_16 (fun u0 W hb (h0 : UV W (m) u0 (k')) => r5norm_w h0 (by omega))) <| obs_nil) fun a w s => ?_
  refine t_store (CU.agg (fNV (k))) ((fNV (k)).toSF) rfl s (by kernel_rfl) ⟨_, .tail _ (.tail _ (.tail _ (.head _))), rfl, rfl, uv_len _ _⟩ (fun _ _ h => h) (nv_store) fun a w s => ?_
  refine t_store (CU.agg (fNV (k'))) ((fNV (k')).toSF) rfl s (by kernel_rfl) ⟨_, .tail _ (.tail _ (.head _)), rfl, rfl, uv_len _ _⟩ (fun _ _ h => h) (nv_store) fun a w s => ?_
  refine tail_end rfl ?_
  refine wpIn_seq ?_
  refine region_go 8 [(29, .s (SF.ptr ((CU.agg (fNV (k))).cf.at 0))), (30, .s ((UF.eq (.bool (decide (k < 0)))).toSF)), (31, .s (SF.ptr ((CU.agg (fNV (k'))).cf.at 0))), (32, .s ((UF.eq (.bool (decide (k' < 0)))).toSF)), (33, .s ((UF.eq (.bool true)).toSF)), (34, .s ((fNat (N)).toSF)), (35, .s ((fUV (m) (q0)).toSF)), (36, .u (fNV (q0)))] hmix s (by kernel_rfl)
    (obs_cons (ok_fld (C := (CU.agg (fNV (k))).cf) 0 (by kernel_rfl)) <|
    obs_cons (ok_ld (C := (CU.agg (fNV (k))).cf) (k := 0) (by kernel_rfl) (h := nv_neg)) <|
    obs_cons (ok_fld (C := (CU.agg (fNV (k'))).cf) 0 (by kernel_rfl)) <|
    obs_cons (ok_ld (C := (CU.agg (fNV (k'))).cf) (k := 0) (by kernel_rfl) (h := nv_neg)) <|
    obs_cons (ok_bin (.bool (decide (k < 0))) (.bool (decide (k' < 0))) (.bool true) (fun _ _ h => h) (fun _ _ h => h) (fun _ => rfl) hsb (fun _ => rfl)) <|
    obs_cons (ok_move) <|
    obs_cons (ok_build2 hbi) <|
    obs_cons (ok_call1 wide_wide en_16 (fun u0 W hb (h0 : UV W (m) u0 (q0)) => r5norm_w h0 (by omega))) <| obs_nil) fun a w s => ?_
  refine t_alloc (CU.len 2) (cs := [.bool false, .slice none 0 0]) (by kernel_rfl) rfl s (by kernel_rfl) (fun W => rfl) rfl fun a w s => ?_
  refine t_store (CU.agg (fNV (q0))) ((fNV (q0)).toSF) rfl s (by kernel_rfl) ⟨_, .head _, rfl, rfl, fun _ _ h => h⟩ (fun _ _ h => h) (nv_store) fun a w s => ?_
  refine tail_end rfl ?_
  refine wpIn_seq ?_
  refine wpIn_seq ?_
  refine region_go 10 [(37, .s (SF.ptr ((CU.agg (fNV (k))).cf.at 0))), (38, .s ((UF.eq (.bool (decide (k < 0)))).toSF)), (39, .s (SF.ptr ((CU.agg (fNV (k'))).cf.at 0))), (40, .s ((UF.eq (.bool (decide (k' < 0)))).toSF)), (41, .s ((UF.eq (.bool true)).toSF)), (42, .s ((UF.eq (.bool true)).toSF)), (43, .s ((fNat (R)).toSF)), (44, .s (fLen R)), (45, .s ((UF.eq (.bool false)).toSF)), (46, .u (UF.eq (.bool false)))] hmix s (by kernel_rfl)
    (obs_cons (ok_fld (C := (CU.agg (fNV (k))).cf) 0 (by kernel_rfl)) <|
    obs_cons (ok_ld (C := (CU.agg (fNV (k))).cf) (k := 0) (by kernel_rfl) (h := nv_neg)) <|
    obs_cons (ok_fld (C := (CU.agg (fNV (k'))).cf) 0 (by kernel_rfl)) <|
    obs_cons (ok_ld (C := (CU.agg (fNV (k'))).cf) (k := 0) (by kernel_rfl) (h := nv_neg)) <|
    obs_cons (ok_bin (.bool (decide (k < 0))) (.bool (decide (k' < 0))) (.bool true) (fun _ _ h => h) (fun _ _ h => h) (fun _ => rfl) hsb (fun _ => rfl)) <|
    obs_cons (ok_move) <|
    obs_cons (ok_guard 42 true (by kernel_rfl) (fun _ _ h => h) (fun _ => ok_move) (fun e => absurd rfl e)) <|
    obs_cons (ok_guard 42 true (by kernel_rfl) (fun _ _ h => h) (fun _ => ok_lenN (by kernel_rfl) (fun _ _ h => h)) (fun e => absurd rfl e)) <|
    obs_cons (ok_guard 42 true (by kernel_rfl) (fun _ _ h => h) (fun _ => ok_gtr0 hrb) (fun e => absurd rfl e)) <|
    obs_cons (ok_pick true (fun _ _ h => h) (fun _ _ _ h => h) (fun e => by cases e)) <| obs_nil) fun a w s => ?_
  refine tail_end rfl ?_
  refine St.cond s false (fun _ _ h => h) (fun e => by cases e) (fun e => ?_)
  refine wpIn_skip ?_
  refine wpIn_seq ?_
  replace s := s.drop [6]
  refine region_go 7 [(50, .u (fNV (q0))), (51, .s ((fNV (k)).toSF)), (52, .s ((fNV (q0)).toSF)), (53, .s ((fNV (k')).toSF)), (54, .s (fISV (m + 1) [q0, k'])), (55, .s ((fNV ((q0 * k'))).toSF)), (56, .u (fNV ((k - q0 * k'))))] hmix s (by kernel_rfl)
    (obs_cons (ok_ldW (f := fNV (q0)) 2 (by kernel_rfl) (hz := nv_len _)) <|
    obs_cons (ok_ldW (f := fNV (k)) 2 (by kernel_rfl) (hz := nv_len _)) <|
    obs_cons (ok_ldW (f := fNV (q0)) 2 (by kernel_rfl) (hz := nv_len _)) <|
    obs_cons (ok_ldW (f := fNV (k')) 2 (by kernel_rfl) (hz := nv_len _)) <|
    obs_cons (ok_slice2 (fun u v W (hu : NV W u (q0)) (hv : NV W v (k')) => sl_int2 (NV.uv' hu (Bd.mono bq0 (m' := (m + 1)) (by first | omega | decide))) (NV.uv' hv (Bd.mono bk' (m' := (m + 1)) (by first | omega | decide))))) <|
    obs_cons (ok_call1 wide_wide en_15 (fun u0 W hb (h0 : ISV W (m + 1) u0 [q0, k']) => r5mul_w h0 (by show (m + 1) * 2 + (m + 1) + 1 ≤ 40000; omega) (by simp) (by simp))) <|
    obs_cons (ok_call2 wide_wide en_34 (fun u0 u1 W hb (h0 : NV W u0 (k)) (h1 : NV W u1 ((q0 * k'))) => r5sub_v (NV.uv' h0 (Bd.mono bk (m' := (m + 1 + m)) (by first | omega | decide))) (NV.uv' h1 bqk) (by omega))) <| obs_nil) fun a w s => ?_
  refine t_store (CU.agg (fNV (q0))) ((fNV (q0)).toSF) rfl s (by kernel_rfl) ⟨_, .tail _ (.tail _ (.head _)), rfl, rfl, fun _ _ h => h⟩ (fun _ _ h => h) (nv_store) fun a w s => ?_
  refine t_store (CU.agg (fNV ((k - q0 * k')))) ((fNV ((k - q0 * k'))).toSF) rfl s (by kernel_rfl) ⟨_, .tail _ (.head _), rfl, rfl, fun _ _ h => h⟩ (fun _ _ h => h) (nv_store) fun a w s => ?_
  refine t_set (UF.eq (.int .i64 (0))) rfl s (by kernel_rfl) (fun _ _ h => h) fun a w s => ?_
  refine tail_end rfl ?_
  refine wpIn_ret ?_
  refine St.resCCT s (CU.agg (fNV q0)) (CU.agg (fNV (k - q0 * k'))) rfl (by kernel_rfl) (by kernel_rfl) ⟨_, .tail _ (.tail _ (.head _)), rfl, rfl, nv_len _⟩ ⟨_, .tail _ (.head _), rfl, rfl, nv_len _⟩ (fun cs cs' v W h1 h2 h3 => ?_)
  exact ⟨q0, _, _, _, by rw [show v = _ from h3], by omega, hfr, h1, h2⟩

set_option maxRecDepth 100000 in
theorem r5div_d {W : World} {m : Nat} {v v' : Value} {k k' q0 : Int} {N R : Nat} (h : UV W m v k) (h' : UV W m v' k') (hm : m ≤ 1000) (h0 : k' ≠ 0) (hN : k.natAbs / k'.natAbs = N) (hR : k.natAbs % k'.natAbs = R) (hsb : ∀ W, (binOp .neq 4 (.bool (decide (k < 0))) (.bool (decide (k' < 0)))).run Try.prog W = .ok (.bool true) W) (hrb : true = decide (0 < R)) (hq0 : (if true then -(N : Int) else N) = q0) (hfr : FloorRest (k - (q0 - 1) * k') k') : Calls Try.prog 29 #[v, v'] W (Ret W (fDV k k')) := by
  have hmix : Try.prog.follows .mixedOrders = true := by kernel_rfl
  have bk : Bd k m := h.bd; have bk' : Bd k' m := h'.bd
  have hNm : N < BB ^ m := by rw [← hN]; exact Nat.lt_of_le_of_lt (Nat.div_le_self _ _) bk
  have bq0 : Bd q0 m := by unfold Bd; rw [← hq0, show (if true then -(N : Int) else N).natAbs = N from by simp]; exact hNm
  have hm0 : 0 < m := Nat.pos_of_ne_zero fun e => by subst e; unfold Bd at bk'; rw [Nat.pow_zero] at bk'; omega
  have b1 : Bd 1 m := Nat.lt_of_lt_of_le (show (1 : Int).natAbs < BB ^ 1 by decide) (Nat.pow_le_pow_right BB_pos (by omega))
  have bq : Bd (q0 - 1) (m + 1) := bq0.sub b1
  have bqk : Bd ((q0 - 1) * k') (m + 1 + m) := Bd.mul bq bk'
  have hdv : ∀ W u0 u1, LV W m u0 k.natAbs → LV W m u1 k'.natAbs → Calls Try.prog 51 #[u0, u1] W (Ret W (SF.tup3 (fNat N).toSF (fNat R).toSF (UF.eq (.int .i64 0)).toSF)) := fun W u0 u1 h1 h2 => by
    refine (rdiv_v h1 h2 (by omega) (Int.natAbs_pos.2 h0)).mono ?_
    rintro e w' ⟨v1, v2, rfl, h3, h4, hb⟩
    rw [hN] at h3; rw [hR] at h4
    exact ⟨_, rfl, ⟨v1, v2, _, rfl, h3, h4, rfl⟩, hb⟩
  have en_51 : Enters Try.prog 51 := enters_of Try.func51 (by kernel_rfl) rfl
  have en_15 : Enters Try.prog 15 := enters_of Try.func15 (by kernel_rfl) rfl
  have en_16 : Enters Try.prog 16 := enters_of Try.func16 (by kernel_rfl) rfl
  have en_32 : Enters Try.prog 32 := enters_of Try.func32 (by kernel_rfl) rfl
  have en_34 : Enters Try.prog 34 := enters_of Try.func34 (by kernel_rfl) rfl
  have hbi : ∀ u v W, u = .bool true → NatV W v N → ∃ cells, Try.prog.built 25 [(0, u), (1, v)] = some cells ∧ UV W m (.agg cells) q0 := fun u v W hu hv => by
    have := b_int hu hv hNm
    rw [hq0] at this
    exact this
  refine run_st [(fUV m k).toSF, (fUV m k').toSF] Try.func29 rfl (by kernel_rfl) ⟨h, h', trivial⟩ fun a s => ?_
  refine wpIn_seq ?_
  refine region_go 0 [] hmix s (by kernel_rfl)
    obs_nil fun a w s => ?_
  refine t_box (CU.agg (fUV (m) (k))) rfl s (by kernel_rfl) (fun v W h => uv_box h) fun a w s => ?_
  refine t_box (CU.agg (fUV (m) (k'))) rfl s (by kernel_rfl) (fun v W h => uv_box h) fun a w s => ?_
  refine t_alloc (CU.len 2) (cs := [.bool false, .slice none 0 0]) (by kernel_rfl) rfl s (by kernel_rfl) (fun W => rfl) rfl fun a w s => ?_
  refine t_alloc (CU.len 2) (cs := [.bool false, .slice none 0 0]) (by kernel_rfl) rfl s (by kernel_rfl) (fun W => rfl) rfl fun a w s => ?_
  refine t_set (UF.eq (.int .i64 (0))) rfl s (by kernel_rfl) (fun _ _ h => h) fun a w s => ?_
  refine tail_end rfl ?_
  refine wpIn_seq ?_
  refine region_go 12 [(12, .s (SF.ptr ((CU.agg (fUV (m) (k))).cf.at 1))), (13, .s ((fLV (m) ((k).natAbs)).toSF)), (14, .s (SF.ptr ((CU.agg (fUV (m) (k'))).cf.at 1))), (15, .s ((fLV (m) ((k').natAbs)).toSF)), (16, .s (SF.tup3 ((fNat (N)).toSF) ((fNat (R)).toSF) ((UF.eq (.int .i64 (0))).toSF))), (11, .s (SF.tup3 ((fNat (N)).toSF) ((fNat (R)).toSF) ((UF.eq (.int .i64 (0))).toSF))), (17, .s ((fNat (N)).toSF)), (18, .s ((fNat (R)).toSF)), (19, .s ((UF.eq (.int .i64 (0))).toSF)), (7, .u (fNat (N))), (8, .u (fNat (R))), (9, .u (UF.eq (.int .i64 (0))))] hmix s (by kernel_rfl)
    (obs_cons (ok_fld (C := (CU.agg (fUV (m) (k))).cf) 1 (by kernel_rfl)) <|
    obs_cons (ok_ld (C := (CU.agg (fUV (m) (k))).cf) (k := 1) (by kernel_rfl) (h := uv_abs)) <|
    obs_cons (ok_fld (C := (CU.agg (fUV (m) (k'))).cf) 1 (by kernel_rfl)) <|
    obs_cons (ok_ld (C := (CU.agg (fUV (m) (k'))).cf) (k := 1) (by kernel_rfl) (h := uv_abs)) <|
    obs_cons (ok_call2 wide_wide en_51 (fun u0 u1 W hb (h0 : LV W (m) u0 ((k).natAbs)) (h1 : LV W (m) u1 ((k').natAbs)) => hdv W u0 u1 h0 h1)) <|
    obs_cons (ok_move) <|
    obs_cons (ok_ext30 (A := (fNat (N)).toSF) (B := (fNat (R)).toSF) (C := (UF.eq (.int .i64 (0))).toSF) (fun _ _ h => h)) <|
    obs_cons (ok_ext31 (A := (fNat (N)).toSF) (B := (fNat (R)).toSF) (C := (UF.eq (.int .i64 (0))).toSF) (fun _ _ h => h)) <|
    obs_cons (ok_ext32 (A := (fNat (N)).toSF) (B := (fNat (R)).toSF) (C := (UF.eq (.int .i64 (0))).toSF) (fun _ _ h => h)) <|
    obs_cons (ok_assign) <|
    obs_cons (ok_assign) <|
    obs_cons (ok_assign) <| obs_nil) fun a w s => ?_
  refine tail_end rfl ?_
  refine wpIn_seq ?_
  refine wpIn_seq ?_
  refine region_go 2 [(20, .s ((UF.eq (.int .i64 (0))).toSF)), (21, .u (UF.eq (.bool false)))] hmix s (by kernel_rfl)
    (obs_cons (ok_move) <|
    obs_cons (ok_bin (.int .i64 0) (.int .i64 0) (.bool false) (fun _ _ h => h) (fun _ _ h => h) (fun _ => rfl) (fun _ => rfl) (fun _ => rfl)) <| obs_nil) fun a w s => ?_
  refine tail_end rfl ?_
  refine St.cond s false (fun _ _ h => h) (fun e => by cases e) (fun e => ?_)
  refine wpIn_skip ?_
  refine wpIn_seq ?_
  refine region_go 4 [(25, .s ((fUV (m) (k)).toSF)), (26, .u (fNV (k))), (27, .s ((fUV (m) (k')).toSF)), (28, .u (fNV (k')))] hmix s (by kernel_rfl)
    (obs_cons (ok_ldW (f := fUV (m) (k)) 2 (by kernel_rfl) (hz := uv_len _ _)) <|
    obs_cons (ok_call1 wide_wide en_16 (fun u0 W hb (h0 : UV W (m) u0 (k)) => r5norm_w h0 (by omega))) <|
    obs_cons (ok_ldW (f := fUV (m) (k')) 2 (by kernel_rfl) (hz := uv_len _ _)) <|
    obs_cons (ok_call1 wide_wide en_16 (fun u0 W hb (h0 : UV W (m) u0 (k')) => r5norm_w h0 (by omega))) <| obs_nil) fun a w s => ?_
  refine t_store (CU.agg (fNV (k))) ((fNV (k)).toSF) rfl s (by kernel_rfl) ⟨_, .tail _ (.tail _ (.tail _ (.head _))), rfl, rfl, uv_len _ _⟩ (fun _ _ h => h) (nv_store) fun a w s => ?_
  refine t_store (CU.agg (fNV (k'))) ((fNV (k')).toSF) rfl s (by kernel_rfl) ⟨_, .tail _ (.tail _ (.head _)), rfl, rfl, uv_len _ _⟩ (fun _ _ h => h) (nv_store) fun a w s => ?_
  refine tail_end rfl ?_
  refine wpIn_seq ?_
  refine region_go 8 [(29, .s (SF.ptr ((CU.agg (fNV (k))).cf.at 0))), (30, .s ((UF.eq (.bool (decide (k < 0)))).toSF)), (31, .s (SF.ptr ((CU.agg (fNV (k'))).cf.at 0))), (32, .s ((UF.eq (.bool (decide (k' < 0)))).toSF)), (33, .s ((UF.eq (.bool true)).toSF)), (34, .s ((fNat (N)).toSF)), (35, .s ((fUV (m) (q0)).toSF)), (36, .u (fNV (q0)))] hmix s (by kernel_rfl)
    (obs_cons (ok_fld (C := (CU.agg (fNV (k))).cf) 0 (by kernel_rfl)) <|
    obs_cons (ok_ld (C := (CU.agg (fNV (k))).cf) (k := 0) (by kernel_rfl) (h := nv_neg)) <|
    obs_cons (ok_fld (C := (CU.agg (fNV (k'))).cf) 0 (by kernel_rfl)) <|
    obs_cons (ok_ld (C := (CU.agg (fNV (k'))).cf) (k := 0) (by kernel_rfl) (h := nv_neg)) <|
    obs_cons (ok_bin (.bool (decide (k < 0))) (.bool (decide (k' < 0))) (.bool true) (fun _ _ h => h) (fun _ _ h => h) (fun _ => rfl) hsb (fun _ => rfl)) <|
    obs_cons (ok_move) <|
    obs_cons (ok_build2 hbi) <|
    obs_cons (ok_call1 wide_wide en_16 (fun u0 W hb (h0 : UV W (m) u0 (q0)) => r5norm_w h0 (by omega))) <| obs_nil) fun a w s => ?_
  refine t_alloc (CU.len 2) (cs := [.bool false, .slice none 0 0]) (by kernel_rfl) rfl s (by kernel_rfl) (fun W => rfl) rfl fun a w s => ?_
  refine t_store (CU.agg (fNV (q0))) ((fNV (q0)).toSF) rfl s (by kernel_rfl) ⟨_, .head _, rfl, rfl, fun _ _ h => h⟩ (fun _ _ h => h) (nv_store) fun a w s => ?_
  refine tail_end rfl ?_
  refine wpIn_seq ?_
  refine wpIn_seq ?_
  refine region_go 10 [(37, .s (SF.ptr ((CU.agg (fNV (k))).cf.at 0))), (38, .s ((UF.eq (.bool (decide (k < 0)))).toSF)), (39, .s (SF.ptr ((CU.agg (fNV (k'))).cf.at 0))), (40, .s ((UF.eq (.bool (decide (k' < 0)))).toSF)), (41, .s ((UF.eq (.bool true)).toSF)), (42, .s ((UF.eq (.bool true)).toSF)), (43, .s ((fNat (R)).toSF)), (44, .s (fLen R)), (45, .s ((UF.eq (.bool true)).toSF)), (46, .u (UF.eq (.bool true)))] hmix s (by kernel_rfl)
    (obs_cons (ok_fld (C := (CU.agg (fNV (k))).cf) 0 (by kernel_rfl)) <|
    obs_cons (ok_ld (C := (CU.agg (fNV (k))).cf) (k := 0) (by kernel_rfl) (h := nv_neg)) <|
    obs_cons (ok_fld (C := (CU.agg (fNV (k'))).cf) 0 (by kernel_rfl)) <|
    obs_cons (ok_ld (C := (CU.agg (fNV (k'))).cf) (k := 0) (by kernel_rfl) (h := nv_neg)) <|
    obs_cons (ok_bin (.bool (decide (k < 0))) (.bool (decide (k' < 0))) (.bool true) (fun _ _ h => h) (fun _ _ h => h) (fun _ => rfl) hsb (fun _ => rfl)) <|
    obs_cons (ok_move) <|
    obs_cons (ok_guard 42 true (by kernel_rfl) (fun _ _ h => h) (fun _ => ok_move) (fun e => absurd rfl e)) <|
    obs_cons (ok_guard 42 true (by kernel_rfl) (fun _ _ h => h) (fun _ => ok_lenN (by kernel_rfl) (fun _ _ h => h)) (fun e => absurd rfl e)) <|
    obs_cons (ok_guard 42 true (by kernel_rfl) (fun _ _ h => h) (fun _ => ok_gtr0 hrb) (fun e => absurd rfl e)) <|
    obs_cons (ok_pick true (fun _ _ h => h) (fun _ _ _ h => h) (fun e => by cases e)) <| obs_nil) fun a w s => ?_
  refine tail_end rfl ?_
  refine St.cond s true (fun _ _ h => h) (fun e => ?_) (fun e => by cases e)
  refine region_go 3 [(47, .s ((fNV (q0)).toSF)), (48, .s ((fNV ((1 : Int))).toSF)), (49, .u (fNV ((q0 - 1))))] hmix s (by kernel_rfl)
    (obs_cons (ok_ldW (f := fNV (q0)) 2 (by kernel_rfl) (hz := nv_len _)) <|
    obs_cons (ok_call1 wide_wide en_32 (fun u0 W hb (h0 : u0 = .int .i64 (1)) => h0 ▸ r5of_v 1 (by decide))) <|
    obs_cons (ok_call2 wide_wide en_34 (fun u0 u1 W hb (h0 : NV W u0 (q0)) (h1 : NV W u1 ((1 : Int))) => r5sub_v (NV.uv' h0 bq0) (NV.uv' h1 b1) (by omega))) <| obs_nil) fun a w s => ?_
  refine t_store (CU.agg (fNV ((q0 - 1)))) ((fNV ((q0 - 1))).toSF) rfl s (by kernel_rfl) ⟨_, .head _, rfl, rfl, nv_len _⟩ (fun _ _ h => h) (nv_store) fun a w s => ?_
  refine tail_end rfl ?_
  refine wpIn_seq ?_
  replace s := s.drop [6]
  refine region_go 7 [(50, .u (fNV ((q0 - 1)))), (51, .s ((fNV (k)).toSF)), (52, .s ((fNV ((q0 - 1))).toSF)), (53, .s ((fNV (k')).toSF)), (54, .s (fISV (m + 1) [(q0 - 1), k'])), (55, .s ((fNV (((q0 - 1) * k'))).toSF)), (56, .u (fNV ((k - (q0 - 1) * k'))))] hmix s (by kernel_rfl)
    (obs_cons (ok_ldW (f := fNV ((q0 - 1))) 2 (by kernel_rfl) (hz := nv_len _)) <|
    obs_cons (ok_ldW (f := fNV (k)) 2 (by kernel_rfl) (hz := nv_len _)) <|
    obs_cons (ok_ldW (f := fNV ((q0 - 1))) 2 (by kernel_rfl) (hz := nv_len _)) <|
    obs_cons (ok_ldW (f := fNV (k')) 2 (by kernel_rfl) (hz := nv_len _)) <|
    obs_cons (ok_slice2 (fun u v W (hu : NV W u ((q0 - 1))) (hv : NV W v (k')) => sl_int2 (NV.uv' hu bq) (NV.uv' hv (Bd.mono bk' (m' := (m + 1)) (by first | omega | decide))))) <|
    obs_cons (ok_call1 wide_wide en_15 (fun u0 W hb (h0 : ISV W (m + 1) u0 [(q0 - 1), k']) => r5mul_w h0 (by show (m + 1) * 2 + (m + 1) + 1 ≤ 40000; omega) (by simp) (by simp))) <|
    obs_cons (ok_call2 wide_wide en_34 (fun u0 u1 W hb (h0 : NV W u0 (k)) (h1 : NV W u1 (((q0 - 1) * k'))) => r5sub_v (NV.uv' h0 (Bd.mono bk (m' := (m + 1 + m)) (by first | omega | decide))) (NV.uv' h1 bqk) (by omega))) <| obs_nil) fun a w s => ?_
  refine t_store (CU.agg (fNV ((q0 - 1)))) ((fNV ((q0 - 1))).toSF) rfl s (by kernel_rfl) ⟨_, .tail _ (.tail _ (.head _)), rfl, rfl, fun _ _ h => h⟩ (fun _ _ h => h) (nv_store) fun a w s => ?_
  refine t_store (CU.agg (fNV ((k - (q0 - 1) * k')))) ((fNV ((k - (q0 - 1) * k'))).toSF) rfl s (by kernel_rfl) ⟨_, .tail _ (.head _), rfl, rfl, fun _ _ h => h⟩ (fun _ _ h => h) (nv_store) fun a w s => ?_
  refine t_set (UF.eq (.int .i64 (0))) rfl s (by kernel_rfl) (fun _ _ h => h) fun a w s => ?_
  refine tail_end rfl ?_
  refine wpIn_ret ?_
  refine St.resCCT s (CU.agg (fNV (q0 - 1))) (CU.agg (fNV (k - (q0 - 1) * k'))) rfl (by kernel_rfl) (by kernel_rfl) ⟨_, .tail _ (.tail _ (.head _)), rfl, rfl, nv_len _⟩ ⟨_, .tail _ (.head _), rfl, rfl, nv_len _⟩ (fun cs cs' v W h1 h2 h3 => ?_)
  exact ⟨(q0 - 1), _, _, _, by rw [show v = _ from h3], by omega, hfr, h1, h2⟩

end Go.Proofs.Wd

namespace Go.Proofs.Wd
open Go.RowKit Lb

theorem r5div_v {W : World} {m : Nat} {v v' : Value} {k k' : Int} (h : UV W m v k) (h' : UV W m v' k') (hm : m ≤ 1000) (h0 : k' ≠ 0) : Calls Try.prog 29 #[v, v'] W (RetDV W k k') := by
  have fin : ∀ e w', Ret W (fDV k k') e w' → RetDV W k k' e w' := by
    rintro e w' ⟨_, rfl, ⟨q, r, v1, v2, rfl, h2, h3, h4, h5⟩, hb⟩
    exact ⟨q, r, v1, v2, rfl, h2, h3, h4, h5, hb⟩
  have hrun : ∀ sb, sb = !(decide (k < 0) == decide (k' < 0)) → ∀ W, (binOp .neq 4 (.bool (decide (k < 0))) (.bool (decide (k' < 0)))).run Try.prog W = .ok (.bool sb) W := fun sb e W => by
    rw [e]
    exact run_neq_bool W 4 _ _ (by kernel_rfl)
  by_cases hs : decide (k < 0) = decide (k' < 0)
  · obtain ⟨e, hf⟩ := floor_same k k' h0 hs
    have hsb := hrun false (by rw [hs]; simp)
    have hr : k - ((k.natAbs / k'.natAbs : Nat) : Int) * k' = sg (decide (k' < 0)) (k.natAbs % k'.natAbs) := by
      have : sg false (k.natAbs / k'.natAbs) = ((k.natAbs / k'.natAbs : Nat) : Int) := rfl
      rw [this] at e
      omega
    rcases Nat.eq_zero_or_pos (k.natAbs % k'.natAbs) with h1 | h1
    · exact (r5div_a h h' hm h0 rfl rfl hsb (by rw [h1]; rfl) rfl (by rw [if_neg (by decide), hr]; exact hf)).mono fin
    · exact (r5div_b h h' hm h0 rfl rfl hsb (decide_eq_true h1).symm rfl (by rw [if_neg (by decide), hr]; exact hf)).mono fin
  · have hsb := hrun true (by rw [beq_eq_false_iff_ne.2 hs]; rfl)
    have hsg : ∀ x : Nat, sg true x = -(x : Int) := fun _ => rfl
    rcases Nat.eq_zero_or_pos (k.natAbs % k'.natAbs) with h1 | h1
    · obtain ⟨e, hf⟩ := floor_even k k' h0 (beq_eq_false_iff_ne.2 hs) h1
      rw [hsg] at e
      exact (r5div_c h h' hm h0 rfl rfl hsb (by rw [h1]; rfl) rfl (by rw [if_pos rfl]; rw [show k - -((k.natAbs / k'.natAbs : Nat) : Int) * k' = sg (decide (k' < 0)) (k.natAbs % k'.natAbs) from by omega]; exact hf)).mono fin
    · obtain ⟨e, hf⟩ := floor_down k k' h0 (beq_eq_false_iff_ne.2 hs) h1
      rw [hsg] at e
      exact (r5div_d h h' hm h0 rfl rfl hsb (decide_eq_true h1).symm rfl (by rw [if_pos rfl]; rw [show k - (-((k.natAbs / k'.natAbs : Nat) : Int) - 1) * k' = sg (decide (k' < 0)) (k'.natAbs - k.natAbs % k'.natAbs) from by rw [show -((k.natAbs / k'.natAbs : Nat) : Int) - 1 = -((k.natAbs / k'.natAbs + 1 : Nat) : Int) from by omega]; omega]; exact hf)).mono fin
theorem r5div_zero_v {W : World} {m : Nat} {v v' : Value} {k k' : Int} (h : UV W m v k) (h' : UV W m v' k') (hm : m ≤ 1000) (h0 : k' = 0) : Calls Try.prog 29 #[v, v'] W fun e w' => e = .returned (.tuple #[.agg #[.bool false, .slice none 0 0], .agg #[.bool false, .slice none 0 0], .int .i64 30]) ∧ Below W.heap.size W w' := by
  obtain ⟨s, A, n, c, l, rfl, h1, h2, h3, h4⟩ := h
  obtain ⟨s', A', n', c', l', rfl, h1', h2', h3', h4'⟩ := h'
  exact r5div_zero s A n c s' A' n' c' l' W h1' h2' (by omega) (by have := iv_abs s' l'; rw [h4', h0] at this; exact this.symm)
theorem exists_floor (a b : Int) (h : b ≠ 0) : ∃ q r, a = q * b + r ∧ FloorRest r b := by
  by_cases hs : decide (a < 0) = decide (b < 0)
  · exact ⟨_, _, floor_same a b h hs⟩
  · rcases Nat.eq_zero_or_pos (a.natAbs % b.natAbs) with e | e
    · exact ⟨_, _, floor_even a b h (beq_eq_false_iff_ne.2 hs) e⟩
    · exact ⟨_, _, floor_down a b h (beq_eq_false_iff_ne.2 hs) e⟩
/-- Both divisions tell the same. -/
theorem div_told (a b : Int) (m : Nat) (hm : m ≤ 1000) (ha : Bd a m) (hb : Bd b m) : ∃ q r e, Bd q (m + 1) ∧ Bd r (m + 1) ∧ (e = 0 ∨ e = 30) ∧
    (∀ W v v', UV W m v a → UV W m v' b → Calls Try.prog 10 #[v, v'] W (RetQ W q r e)) ∧ (∀ W v v', UV W m v a → UV W m v' b → Calls Try.prog 29 #[v, v'] W (RetQ W q r e)) := by
  by_cases h0 : b = 0
  · refine ⟨0, 0, 30, Nat.pow_pos BB_pos, Nat.pow_pos BB_pos, .inr rfl, fun W v v' h h' => ?_, fun W v v' h h' => ?_⟩
    · refine (div_zero_v h h' hm h0).mono ?_
      rintro e w' ⟨rfl, hbl⟩
      exact ⟨_, _, rfl, NV.empty _, NV.empty _, hbl⟩
    · refine (r5div_zero_v h h' hm h0).mono ?_
      rintro e w' ⟨rfl, hbl⟩
      exact ⟨_, _, rfl, NV.empty _, NV.empty _, hbl⟩
  · obtain ⟨q, r, h1, h2⟩ := exists_floor a b h0
    obtain ⟨z1, z2, _⟩ := floor_sizes h1 h2 ha hb
    exact ⟨q, r, 0, z1, z2, .inl rfl, fun W v v' h h' => (div_v h h' hm h0).mono fun _ _ x => x.q h1 h2, fun W v v' h h' => (r5div_v h h' hm h0).mono fun _ _ x => x.q h1 h2⟩
/-- A list that the reference does not find great. -/
theorem great_list {is : List (Bool × List Nat)} (h : greatI is = false) : is.length ≤ 20 ∧ ∀ p ∈ is, p.2.length ≤ 60 := by
  unfold greatI at h
  rw [Bool.or_eq_false_iff] at h
  have h1 := of_decide_eq_false h.1
  have h2 := of_decide_eq_false h.2
  have hl : is.length ≤ 20 := by omega
  refine ⟨hl, fun p hp => ?_⟩
  rw [show min is.length 21 = is.length from by omega] at h2
  obtain ⟨j, hj⟩ := List.getElem?_of_mem hp
  have key : ∀ k, j < k → min p.2.length 1000 ≤ gsum is k := by
    intro k hk
    induction k with
    | zero => omega
    | succ k ih =>
      have e : gsum is (k + 1) = gsum is k + min ((is[k]?.map fun p => p.2.length).getD 0) 1000 := rfl
      rw [e]
      by_cases hjk : j = k
      · subst hjk
        rw [hj]
        exact Nat.le_add_left _ _
      · exact Nat.le_trans (ih (by omega)) (Nat.le_add_right _ _)
  have := key is.length (List.getElem?_eq_some_iff.1 hj).1
  omega
theorem IRdM.shut {m m' : Nat} {w : World} {A : Option Addr} {n : Nat} {is : List (Bool × List Nat)} (h : IRdM m w A n is) (hm : ∀ p ∈ is, p.2.length ≤ m') : IRdM m' w A n is :=
  ⟨h.len, fun i hi => by
    obtain ⟨b, o, s, Ai, ni, ci, li, e, hc, hc', h1, h2, h3, h4⟩ := h.cells i hi
    exact ⟨b, o, s, Ai, ni, ci, li, e, hc, hc', h1, h2, h3, by have := hm _ (List.mem_of_getElem? h1); rw [← h2.len]; exact this⟩⟩
end Go.Proofs.Wd

namespace Go.Proofs.Wd
open Go.RowKit Lb
attribute [local go_sem] Oper.semAt_some wide_fn wide_depth

set_option maxRecDepth 100000 in
set_option maxHeartbeats 8000000 in
theorem tells5_any (s : Bool) (A : Option Addr) (n c : Nat) (l : List Nat) (s' : Bool) (A' : Option Addr) (n' c' : Nat) (l' : List Nat) (A2 : Option Addr) (n2 c2 : Nat) (is : List (Bool × List Nat)) (z : Int) (w : World)
    (h : Rd w A n c l) (ht : Lt l) (h' : Rd w A' n' c' l') (ht' : Lt l') (hL : n2 ≤ c2 ∧ c2 ≤ 9223372036854775807 ∧ IRdM 9223372036854775807 w A2 n2 is) (hz : -9223372036854775808 ≤ z ∧ z ≤ 9223372036854775807) :
    Calls Try.prog 7 #[.agg #[.bool s, .slice A n c], .agg #[.bool s', .slice A' n' c'], .slice A2 n2 c2, .int .i64 z] w fun e w' => e = .returned (.bool true) ∧ Below w.heap.size w w' := by
  have hmix : Try.prog.follows .mixedOrders = true := by kernel_rfl
  obtain ⟨l1, l2, hL⟩ := hL
  obtain ⟨W0, hW0⟩ : ∃ W0, ((w.alloc (.cells #[.bool s, .slice A n c] 25)).alloc (.cells #[.bool s', .slice A' n' c'] 25)) = W0 := ⟨_, rfl⟩
  have x0 : BoxN W0 w.heap.size 25 #[.bool s, .slice A n c] := by rw [← hW0]; exact (BoxN.new w _ _).alloc _
  have x1 : BoxN W0 (w.heap.size + 1) 25 #[.bool s', .slice A' n' c'] := by rw [← hW0]; exact BoxN.at_ _ _ _ (by simp)
  have hB0 : Below w.heap.size w W0 := by rw [← hW0]; exact ((Below.refl _ w).alloc (Nat.le_refl _) _).alloc (by simp) _
  have y : Rd W0 A n c l := h.below hB0
  have y' : Rd W0 A' n' c' l' := h'.below hB0
  have bx : ∀ W, Below W0.heap.size W0 W → (W.cell? ⟨w.heap.size, 0, none⟩ = some (.bool s) ∧ W.cell? ⟨w.heap.size, 1, none⟩ = some (.slice A n c)) ∧ (W.cell? ⟨w.heap.size + 1, 0, none⟩ = some (.bool s') ∧ W.cell? ⟨w.heap.size + 1, 1, none⟩ = some (.slice A' n' c')) := fun W hb => ⟨(x0.kept hb).facts2.1, (x1.kept hb).facts2.1⟩
  have big := great_v (IS.two y ht (Nat.le_trans h.le h.cap) y' ht' (Nat.le_trans h'.le h'.cap) (s := s) (s' := s') 25) (Nat.le_refl _) (by simp)
  obtain ⟨g, hg⟩ : ∃ g, greatI [(s, l), (s', l')] = g := ⟨_, rfl⟩
  rw [hg] at big
  have hsz : W0.heap.size = w.heap.size + 1 + 1 := by rw [← hW0]; simp
  obtain ⟨Wg, hWg⟩ : ∃ Wg, W0.alloc (.cells #[.bool s, .slice A n c, .bool s', .slice A' n' c'] 25) = Wg := ⟨_, rfl⟩
  have b1 : Below W0.heap.size W0 Wg := by rw [← hWg]; exact (Below.refl _ _).alloc (Nat.le_refl _) _
  rw [hWg] at big
  obtain rfl : n2 = is.length := hL.len.symm
  have big2 := great_v (W := Wg) (m := 9223372036854775807) ⟨A2, c2, rfl, l1, l2, hL.below (hB0.trans (b1.mono hB0.size))⟩ (Nat.le_refl _) (by omega)
  obtain ⟨g', hg'⟩ : ∃ g, greatI is = g := ⟨_, rfl⟩
  rw [hg'] at big2
  obtain ⟨n2, hn2⟩ : ∃ n2, is.length = n2 := ⟨_, rfl⟩
  rw [hn2] at big2 hL l1
  rw [hn2]
  obtain ⟨⟨a1, a2⟩, a3, a4⟩ := bx W0 (Below.refl _ _)
  have t0 := hB0.trans (b1.mono hB0.size)
  go_enter Try.func7, Try.ntmps7
  go_wp2_with fail
  rw [hsz] at big
  refine big.mono ?_
  rintro e wz ⟨rfl, hw⟩
  rw [hw]
  clear hw wz
  cases g
  case true =>
    clear hg
    go_wp2_with fail
    refine (wakes_any _).mono ?_
    rintro e w2 ⟨rfl, b2⟩
    go_wp2_with fail
    go_ret
    exact ⟨rfl, t0.trans (b2.mono t0.size)⟩
  obtain ⟨m1, m2⟩ := great_two hg
  clear hg
  simp only at m1 m2
  rw [h.len] at m1; rw [h'.len] at m2
  go_wp2_with fail
  refine big2.mono ?_
  rintro e wz ⟨rfl, hw⟩
  rw [hw]
  clear hw wz
  cases g'
  case true =>
    clear hg'
    go_wp2_with fail
    refine (wakes_any _).mono ?_
    rintro e w2 ⟨rfl, b2⟩
    go_wp2_with fail
    go_ret
    exact ⟨rfl, t0.trans (b2.mono t0.size)⟩
  obtain ⟨l3, l4⟩ := great_list hg'
  clear hg'
  have ua : ∀ W, Below W0.heap.size W0 W → UV W 60 (.agg #[.bool s, .slice A n c]) (iv s l) := fun W hb => UV.mk (y.below hb) ht m1
  have ub : ∀ W, Below W0.heap.size W0 W → UV W 60 (.agg #[.bool s', .slice A' n' c']) (iv s' l') := fun W hb => UV.mk (y'.below hb) ht' m2
  have lz : ∀ W, Below W0.heap.size W0 W → ISV W 60 (.slice A2 n2 c2) (is.map fun p => iv p.1 p.2) := fun W hb => ⟨is, ⟨A2, c2, by rw [hn2], by rw [hn2]; exact l1, l2, by rw [hn2]; exact (((hL.below hB0).below hb).shut l4)⟩, rfl⟩
  obtain ⟨ks, hk⟩ : ∃ ks, (is.map fun p => iv p.1 p.2) = ks := ⟨_, rfl⟩
  have hk1 : ks.length ≤ 20 := by rw [← hk, List.length_map]; exact l3
  rw [hk] at lz
  have hks : ks.length ≤ 1000 := by omega
  have hkm : 60 * ks.length + 60 + 1 ≤ 40000 := by omega
  obtain ⟨S, hS⟩ : ∃ S, ks.sum = S := ⟨_, rfl⟩
  obtain ⟨Pm, hP⟩ : ∃ S, ks.foldl (· * ·) 1 = S := ⟨_, rfl⟩
  obtain ⟨va, hva⟩ : ∃ v, iv s l = v := ⟨_, rfl⟩
  obtain ⟨vb, hvb⟩ : ∃ v, iv s' l' = v := ⟨_, rfl⟩
  rw [hva] at ua; rw [hvb] at ub
  have ba : Bd va 60 := (ua W0 (Below.refl _ _)).bd
  have bb : Bd vb 60 := (ub W0 (Below.refl _ _)).bd
  have bz : Bd z 2 := bd_i64 hz
  obtain ⟨q, r, er, bq, br, her, dv1, dv2⟩ := div_told va vb 60 (by decide) ba bb
  have sm1 := fun (W : World) (hb : Below W0.heap.size W0 W) => ssmall_v (ua W hb) (by decide)
  have sm2 := fun (W : World) (hb : Below W0.heap.size W0 W) => r5small_v (ua W hb) (by decide)
  obtain ⟨sa, hsa⟩ : ∃ x, smI va = x := ⟨_, rfl⟩
  obtain ⟨oa, hoa⟩ : ∃ x, okI va = x := ⟨_, rfl⟩
  rw [hsa, hoa] at sm1 sm2
  have hc1 := fun (W : World) (v v' : Value) (p : UV W 60 v va) (p' : UV W 60 v' vb) => cmp_v p p' (by decide)
  have hc2 := fun (W : World) (v v' : Value) (p : UV W 60 v va) (p' : UV W 60 v' vb) => r5cmp_v p p' (by decide)
  have hc3 := fun (W : World) (v v' : Value) (p : UV W 60 v va) (p' : UV W 60 v' vb) => same_v p p' (by decide)
  have hc4 := fun (W : World) (v v' : Value) (p : UV W 60 v va) (p' : UV W 60 v' vb) => r5same_v p p' (by decide)
  obtain ⟨sg5, hsg⟩ : ∃ x, (va - vb).sign = x := ⟨_, rfl⟩
  rw [hsg] at hc1 hc2 hc3 hc4
  obtain ⟨sm5, hsm⟩ : ∃ x, (sg5 == 0) = x := ⟨_, rfl⟩
  rw [hsm] at hc3 hc4
  have HCMP := hid hc1; have HCMP5 := hid hc2; have HSM := hid hc3; have HSM5 := hid hc4
  clear hva hvb hsa hoa hsg hsm hc1 hc2 hc3 hc4 hk hk1 l3 l4 h h' ht ht' y y' m1 m2 big big2 hL l1 hn2 her a1 a2 a3 a4 hW0 hWg hsz
  obtain ⟨⟨a1, a2⟩, a3, a4⟩ := bx Wg b1
  go_wp2_with fail
  refine (sm1 Wg b1).mono ?_
  rintro e w1 ⟨rfl, c1⟩
  have b1 := b1.trans (c1.mono b1.size)
  obtain ⟨⟨a1, a2⟩, a3, a4⟩ := bx w1 b1
  go_wp2_with fail
  refine (sm2 w1 b1).mono ?_
  rintro e w2 ⟨rfl, c2'⟩
  have b2 := b1.trans (c2'.mono b1.size)
  obtain ⟨⟨a1, a2⟩, a3, a4⟩ := bx w2 b2
  go_wp2_with fail
  refine (dv1 w2 _ _ (ua w2 b2) (ub w2 b2)).mono ?_
  rintro e w3 ⟨v1, v2, rfl, ⟨Aq, nq, cq, lq, rfl, iq, rq⟩, ⟨Ar, nr, cr, lr, rfl, ir, rr⟩, c3⟩
  have b3 := b2.trans (c3.mono b2.size)
  have d4 : Below w3.heap.size w3 ((w3.alloc (.cells #[.bool (decide (q < 0)), .slice Aq nq cq] 25)).alloc (.cells #[.bool (decide (r < 0)), .slice Ar nr cr] 25)) := ((Below.refl _ w3).alloc (Nat.le_refl _) _).alloc (le_alloc (Nat.le_refl _) _)  _
  have X3 := (BoxN.new w3 25 #[.bool (decide (q < 0)), .slice Aq nq cq]).alloc (.cells #[.bool (decide (r < 0)), .slice Ar nr cr] 25)
  have X4 := BoxN.at_ (w3.alloc (.cells #[.bool (decide (q < 0)), .slice Aq nq cq] 25)) 25 #[.bool (decide (r < 0)), .slice Ar nr cr] (b := w3.heap.size + 1) (by simp)
  have rq4 := (rq.below d4); have rr4 := rr.below d4
  have b4 := b3.trans (d4.mono b3.size)
  obtain ⟨⟨a1, a2⟩, a3, a4⟩ := bx _ b4
  go_wp2_with fail
  refine (dv2 _ _ _ (ua _ b4) (ub _ b4)).mono ?_
  rintro e w5 ⟨v1, v2, rfl, ⟨Ap, np, cp, lp, rfl, ip, rp⟩, ⟨At, nt, ct, lt, rfl, it, rt⟩, c5⟩
  have b5 := b4.trans (c5.mono b4.size)
  have d6 : Below w5.heap.size w5 ((w5.alloc (.cells #[.bool (decide (q < 0)), .slice Ap np cp] 25)).alloc (.cells #[.bool (decide (r < 0)), .slice At nt ct] 25)) := ((Below.refl _ w5).alloc (Nat.le_refl _) _).alloc (le_alloc (Nat.le_refl _) _)  _
  have X5 := (BoxN.new w5 25 #[.bool (decide (q < 0)), .slice Ap np cp]).alloc (.cells #[.bool (decide (r < 0)), .slice At nt ct] 25)
  have X6 := BoxN.at_ (w5.alloc (.cells #[.bool (decide (q < 0)), .slice Ap np cp] 25)) 25 #[.bool (decide (r < 0)), .slice At nt ct] (b := w5.heap.size + 1) (by simp)
  have c6 := c5.trans (d6.mono c5.size)
  have Y3 := X3.kept c6; have Y4 := X4.kept c6
  have rq6 := rq4.below c6; have rr6 := rr4.below c6
  have rp6 := rp.below d6; have rt6 := rt.below d6
  have b6 := b5.trans (d6.mono b5.size)
  obtain ⟨⟨a1, a2⟩, a3, a4⟩ := bx _ b6
  go_wp2
  obtain ⟨W6, hW6⟩ : ∃ W6, ((w5.alloc (.cells #[.bool (decide (q < 0)), .slice Ap np cp] 25)).alloc (.cells #[.bool (decide (r < 0)), .slice At nt ct] 25)) = W6 := ⟨_, rfl⟩
  rw [hW6] at X5 X6 Y3 Y4 rq6 rr6 rp6 rt6 b6
  rw [hW6]
  clear hW6 a1 a2 a3 a4 X3 X4 c6 d6 d4 sm1 sm2 dv1 dv2 rq4 rr4 rq rr rp rt b1 b2 b3 b4 b5 c1 c2' c3 c5
  have cf0 : ∀ W, Below W6.heap.size W6 W → ((W.cell? ⟨w.heap.size, 0, none⟩ = some (.bool s) ∧ W.cell? ⟨w.heap.size, 1, none⟩ = some (.slice A n c)) ∧ (W.cell? ⟨w.heap.size + 1, 0, none⟩ = some (.bool s') ∧ W.cell? ⟨w.heap.size + 1, 1, none⟩ = some (.slice A' n' c'))) ∧ ((W.cell? ⟨w3.heap.size, 0, none⟩ = some (.bool (decide (q < 0))) ∧ W.cell? ⟨w3.heap.size, 1, none⟩ = some (.slice Aq nq cq)) ∧ (W.cell? ⟨w3.heap.size + 1, 0, none⟩ = some (.bool (decide (r < 0))) ∧ W.cell? ⟨w3.heap.size + 1, 1, none⟩ = some (.slice Ar nr cr))) ∧ (W.cell? ⟨w5.heap.size, 0, none⟩ = some (.bool (decide (q < 0))) ∧ W.cell? ⟨w5.heap.size, 1, none⟩ = some (.slice Ap np cp)) ∧ (W.cell? ⟨w5.heap.size + 1, 0, none⟩ = some (.bool (decide (r < 0))) ∧ W.cell? ⟨w5.heap.size + 1, 1, none⟩ = some (.slice At nt ct)) := fun W hb => ⟨bx W (b6.trans (hb.mono b6.size)), ⟨(Y3.kept hb).facts2.1, (Y4.kept hb).facts2.1⟩, (X5.kept hb).facts2.1, (X6.kept hb).facts2.1⟩
  have up0 : ∀ W, Below W6.heap.size W6 W → Below W0.heap.size W0 W := fun W hb => b6.trans (hb.mono b6.size)
  have dn0 : ∀ W, Below W6.heap.size W6 W → Below W6.heap.size W6 W := fun W hb => hb
  have nv3 : ∀ W, Below W6.heap.size W6 W → NV W (.agg #[.bool (decide (q < 0)), .slice Aq nq cq]) q := fun W hb => ⟨Aq, nq, cq, lq, rfl, iq, rq6.below hb⟩
  have nv4 : ∀ W, Below W6.heap.size W6 W → NV W (.agg #[.bool (decide (r < 0)), .slice Ar nr cr]) r := fun W hb => ⟨Ar, nr, cr, lr, rfl, ir, rr6.below hb⟩
  have nv5 : ∀ W, Below W6.heap.size W6 W → NV W (.agg #[.bool (decide (q < 0)), .slice Ap np cp]) q := fun W hb => ⟨Ap, np, cp, lp, rfl, ip, rp6.below hb⟩
  have nv6 : ∀ W, Below W6.heap.size W6 W → NV W (.agg #[.bool (decide (r < 0)), .slice At nt ct]) r := fun W hb => ⟨At, nt, ct, lt, rfl, it, rt6.below hb⟩
  refine (wpIn_wide (n := 0)).1 ?_
  refine wpIn_region_C 100000 (fun _ => True) hmix ?_
  refine flowT_at (k := 50) (fun _ => false) (fun iz vz Wz => match iz with
    | 0 => vz = .int .i64 sa
    | 1 => vz = .int .i64 sa
    | 2 => vz = .bool false
    | 3 => vz = .bool false
    | 4 => vz = .bool oa
    | 5 => vz = .bool oa
    | 6 => vz = .bool false
    | 7 => vz = .bool false
    | 8 => vz = .bool false
    | 9 => vz = .agg #[.bool (decide (q < 0)), .slice Aq nq cq]
    | 10 => vz = .agg #[.bool (decide (q < 0)), .slice Ap np cp]
    | 11 => vz = .bool true
    | 12 => vz = .bool false
    | 13 => vz = .bool false
    | 14 => vz = .bool false
    | 15 => vz = .agg #[.bool (decide (r < 0)), .slice Ar nr cr]
    | 16 => vz = .agg #[.bool (decide (r < 0)), .slice At nt ct]
    | 17 => vz = .bool true
    | 18 => vz = .bool false
    | 19 => vz = .bool false
    | 20 => vz = .bool false
    | 21 => vz = .int .i64 er
    | 22 => vz = .int .i64 er
    | 23 => vz = .bool false
    | 24 => vz = .bool false
    | 25 => vz = .bool false
    | 26 => vz = .agg #[.bool s, .slice A n c]
    | 27 => vz = .int .i64 va.sign
    | 28 => vz = .agg #[.bool s, .slice A n c]
    | 29 => vz = .int .i64 va.sign
    | 30 => vz = .bool false
    | 31 => vz = .bool false
    | 32 => vz = .bool false
    | 33 => vz = .agg #[.bool s, .slice A n c]
    | 34 => vz = .agg #[.bool s', .slice A' n' c']
    | 35 => vz = .int .i64 sg5
    | 36 => vz = .agg #[.bool s, .slice A n c]
    | 37 => vz = .agg #[.bool s', .slice A' n' c']
    | 38 => vz = .int .i64 sg5
    | 39 => vz = .bool false
    | 40 => vz = .bool false
    | 41 => vz = .bool false
    | 42 => vz = .agg #[.bool s, .slice A n c]
    | 43 => vz = .agg #[.bool s', .slice A' n' c']
    | 44 => vz = .bool sm5
    | 45 => vz = .agg #[.bool s, .slice A n c]
    | 46 => vz = .agg #[.bool s', .slice A' n' c']
    | 47 => vz = .bool sm5
    | 48 => vz = .bool false
    | 49 => vz = .bool false
    | _ => True) (fun W => Below W6.heap.size W6 W) (by kernel_rfl) (by kernel_rfl) (by kernel_rfl) (by kernel_rfl) (by kernel_rfl) (by kernel_rfl) (by kernel_rfl) (by kernel_rfl) (by kernel_rfl) (fun _ _ h hb => h.trans (hb.mono h.size)) ?stab ((Below.refl _ W6).drew) ?spec ?fin
  case stab =>
    intro iz vz Wz Wy h hb
    split at h <;> first | exact h | exact NV.below h hb | exact ISV.below h hb | trivial
  case spec =>
    refine all_lt_succ ?_ ?h49
    refine all_lt_succ ?_ ?h48
    refine all_lt_succ ?_ ?h47
    refine all_lt_succ ?_ ?h46
    refine all_lt_succ ?_ ?h45
    refine all_lt_succ ?_ ?h44
    refine all_lt_succ ?_ ?h43
    refine all_lt_succ ?_ ?h42
    refine all_lt_succ ?_ ?h41
    refine all_lt_succ ?_ ?h40
    refine all_lt_succ ?_ ?h39
    refine all_lt_succ ?_ ?h38
    refine all_lt_succ ?_ ?h37
    refine all_lt_succ ?_ ?h36
    refine all_lt_succ ?_ ?h35
    refine all_lt_succ ?_ ?h34
    refine all_lt_succ ?_ ?h33
    refine all_lt_succ ?_ ?h32
    refine all_lt_succ ?_ ?h31
    refine all_lt_succ ?_ ?h30
    refine all_lt_succ ?_ ?h29
    refine all_lt_succ ?_ ?h28
    refine all_lt_succ ?_ ?h27
    refine all_lt_succ ?_ ?h26
    refine all_lt_succ ?_ ?h25
    refine all_lt_succ ?_ ?h24
    refine all_lt_succ ?_ ?h23
    refine all_lt_succ ?_ ?h22
    refine all_lt_succ ?_ ?h21
    refine all_lt_succ ?_ ?h20
    refine all_lt_succ ?_ ?h19
    refine all_lt_succ ?_ ?h18
    refine all_lt_succ ?_ ?h17
    refine all_lt_succ ?_ ?h16
    refine all_lt_succ ?_ ?h15
    refine all_lt_succ ?_ ?h14
    refine all_lt_succ ?_ ?h13
    refine all_lt_succ ?_ ?h12
    refine all_lt_succ ?_ ?h11
    refine all_lt_succ ?_ ?h10
    refine all_lt_succ ?_ ?h9
    refine all_lt_succ ?_ ?h8
    refine all_lt_succ ?_ ?h7
    refine all_lt_succ ?_ ?h6
    refine all_lt_succ ?_ ?h5
    refine all_lt_succ ?_ ?h4
    refine all_lt_succ ?_ ?h3
    refine all_lt_succ ?_ ?h2
    refine all_lt_succ ?_ ?h1
    refine all_lt_succ ?_ ?h0
    exact fun i h _ => absurd h (Nat.not_lt_zero i)
    case h0 =>
      intro _ o hi b5 W5 hf K hK
      cases hi
      have k9 : b5.tmps[9]?.getD undef = .int .i64 sa := (Array.getD_eq_getD_getElem? ..).symm.trans ((hf.at_.keep 9 (by kernel_rfl)).trans (by kernel_rfl))
      refine wpOpIn_step rfl (fun K' hK' => ?_)
      go_simp
      exact hK' _ _ (hK _ _ rfl (Below.refl _ _) (fun h => by cases h))
    case h1 =>
      intro _ o hi b5 W5 hf K hK
      cases hi
      have k11 : b5.tmps[11]?.getD undef = .int .i64 sa := (Array.getD_eq_getD_getElem? ..).symm.trans ((hf.at_.keep 11 (by kernel_rfl)).trans (by kernel_rfl))
      refine wpOpIn_step rfl (fun K' hK' => ?_)
      go_simp
      exact hK' _ _ (hK _ _ rfl (Below.refl _ _) (fun h => by cases h))
    case h2 =>
      intro _ o hi b5 W5 hf K hK
      cases hi
      have k52 : b5.tmps[52]?.getD undef = .int .i64 sa := (Array.getD_eq_getD_getElem? ..).symm.trans (hf.at_.vals 0 _ 52 ⟨by decide, ⟨0, .data⟩, by simp, by kernel_rfl, rfl⟩ rfl rfl)
      have k53 : b5.tmps[53]?.getD undef = .int .i64 sa := (Array.getD_eq_getD_getElem? ..).symm.trans (hf.at_.vals 1 _ 53 ⟨by decide, ⟨1, .data⟩, by simp, by kernel_rfl, rfl⟩ rfl rfl)
      refine wpOpIn_step rfl (fun K' hK' => ?_)
      go_simp
      try simp only [bne_self_eq_false, beq_self_eq_true, Bool.not_true]
      exact hK' _ _ (hK _ _ rfl (Below.refl _ _) (fun h => by cases h))
    case h3 =>
      intro _ o hi b5 W5 hf K hK
      cases hi
      have k54 : b5.tmps[54]?.getD undef = .bool false := (Array.getD_eq_getD_getElem? ..).symm.trans (hf.at_.vals 2 _ 54 ⟨by decide, ⟨2, .data⟩, by simp, by kernel_rfl, rfl⟩ rfl rfl)
      refine wpOpIn_step rfl (fun K' hK' => ?_)
      go_simp
      exact hK' _ _ (hK _ _ rfl (Below.refl _ _) (fun h => by cases h))
    case h4 =>
      intro _ o hi b5 W5 hf K hK
      cases hi
      have k55 : b5.tmps[55]?.getD undef = .bool false := (Array.getD_eq_getD_getElem? ..).symm.trans (hf.at_.vals 3 _ 55 ⟨by decide, ⟨3, .guard⟩, by simp, by kernel_rfl, rfl⟩ rfl rfl)
      have g55 := some_bool k55
      have k10 : b5.tmps[10]?.getD undef = .bool oa := (Array.getD_eq_getD_getElem? ..).symm.trans ((hf.at_.keep 10 (by kernel_rfl)).trans (by kernel_rfl))
      refine wpOpIn_step rfl (fun K' hK' => ?_)
      go_simp
      exact hK' _ _ (hK _ _ rfl (Below.refl _ _) (fun h => by cases h))
    case h5 =>
      intro _ o hi b5 W5 hf K hK
      cases hi
      have k55 : b5.tmps[55]?.getD undef = .bool false := (Array.getD_eq_getD_getElem? ..).symm.trans (hf.at_.vals 3 _ 55 ⟨by decide, ⟨3, .guard⟩, by simp, by kernel_rfl, rfl⟩ rfl rfl)
      have g55 := some_bool k55
      have k12 : b5.tmps[12]?.getD undef = .bool oa := (Array.getD_eq_getD_getElem? ..).symm.trans ((hf.at_.keep 12 (by kernel_rfl)).trans (by kernel_rfl))
      refine wpOpIn_step rfl (fun K' hK' => ?_)
      go_simp
      exact hK' _ _ (hK _ _ rfl (Below.refl _ _) (fun h => by cases h))
    case h6 =>
      intro _ o hi b5 W5 hf K hK
      cases hi
      have k55 : b5.tmps[55]?.getD undef = .bool false := (Array.getD_eq_getD_getElem? ..).symm.trans (hf.at_.vals 3 _ 55 ⟨by decide, ⟨3, .guard⟩, by simp, by kernel_rfl, rfl⟩ rfl rfl)
      have g55 := some_bool k55
      have k56 : b5.tmps[56]?.getD undef = .bool oa := (Array.getD_eq_getD_getElem? ..).symm.trans (hf.at_.vals 4 _ 56 ⟨by decide, ⟨4, .data⟩, by simp, by kernel_rfl, rfl⟩ rfl rfl)
      have k57 : b5.tmps[57]?.getD undef = .bool oa := (Array.getD_eq_getD_getElem? ..).symm.trans (hf.at_.vals 5 _ 57 ⟨by decide, ⟨5, .data⟩, by simp, by kernel_rfl, rfl⟩ rfl rfl)
      refine wpOpIn_step rfl (fun K' hK' => ?_)
      go_simp
      try simp only [bne_self_eq_false, beq_self_eq_true, Bool.not_true]
      exact hK' _ _ (hK _ _ rfl (Below.refl _ _) (fun h => by cases h))
    case h7 =>
      intro _ o hi b5 W5 hf K hK
      cases hi
      have k55 : b5.tmps[55]?.getD undef = .bool false := (Array.getD_eq_getD_getElem? ..).symm.trans (hf.at_.vals 3 _ 55 ⟨by decide, ⟨3, .data⟩, by simp, by kernel_rfl, rfl⟩ rfl rfl)
      have k58 : b5.tmps[58]?.getD undef = .bool false := (Array.getD_eq_getD_getElem? ..).symm.trans (hf.at_.vals 6 _ 58 ⟨by decide, ⟨6, .data⟩, by simp, by kernel_rfl, rfl⟩ rfl rfl)
      refine wpOpIn_step rfl (fun K' hK' => ?_)
      go_simp
      exact hK' _ _ (hK _ _ rfl (Below.refl _ _) (fun h => by cases h))
    case h8 =>
      intro _ o hi b5 W5 hf K hK
      cases hi
      have k59 : b5.tmps[59]?.getD undef = .bool false := (Array.getD_eq_getD_getElem? ..).symm.trans (hf.at_.vals 7 _ 59 ⟨by decide, ⟨7, .data⟩, by simp, by kernel_rfl, rfl⟩ rfl rfl)
      refine wpOpIn_step rfl (fun K' hK' => ?_)
      go_simp
      exact hK' _ _ (hK _ _ rfl (Below.refl _ _) (fun h => by cases h))
    case h9 =>
      intro _ o hi b5 W5 hf K hK
      cases hi
      have k60 : b5.tmps[60]?.getD undef = .bool false := (Array.getD_eq_getD_getElem? ..).symm.trans (hf.at_.vals 8 _ 60 ⟨by decide, ⟨8, .guard⟩, by simp, by kernel_rfl, rfl⟩ rfl rfl)
      have g60 := some_bool k60
      have k13 : b5.tmps[13]?.getD undef = .pointer (some ⟨w3.heap.size, 0, none⟩) := (Array.getD_eq_getD_getElem? ..).symm.trans ((hf.at_.keep 13 (by kernel_rfl)).trans (by kernel_rfl))
      obtain ⟨⟨⟨q1, q2⟩, q3, q4⟩, ⟨⟨q5, q6⟩, q7, q8⟩, ⟨q9, q10⟩, q11, q12⟩ := cf0 W5 hf.at_.cls
      refine wpOpIn_step rfl (fun K' hK' => ?_)
      go_simp
      exact hK' _ _ (hK _ _ rfl (Below.refl _ _) (fun h => by cases h))
    case h10 =>
      intro _ o hi b5 W5 hf K hK
      cases hi
      have k60 : b5.tmps[60]?.getD undef = .bool false := (Array.getD_eq_getD_getElem? ..).symm.trans (hf.at_.vals 8 _ 60 ⟨by decide, ⟨8, .guard⟩, by simp, by kernel_rfl, rfl⟩ rfl rfl)
      have g60 := some_bool k60
      have k16 : b5.tmps[16]?.getD undef = .pointer (some ⟨w5.heap.size, 0, none⟩) := (Array.getD_eq_getD_getElem? ..).symm.trans ((hf.at_.keep 16 (by kernel_rfl)).trans (by kernel_rfl))
      obtain ⟨⟨⟨q1, q2⟩, q3, q4⟩, ⟨⟨q5, q6⟩, q7, q8⟩, ⟨q9, q10⟩, q11, q12⟩ := cf0 W5 hf.at_.cls
      refine wpOpIn_step rfl (fun K' hK' => ?_)
      go_simp
      exact hK' _ _ (hK _ _ rfl (Below.refl _ _) (fun h => by cases h))
    case h11 =>
      intro _ o hi b5 W5 hf K hK
      cases hi
      have k60 : b5.tmps[60]?.getD undef = .bool false := (Array.getD_eq_getD_getElem? ..).symm.trans (hf.at_.vals 8 _ 60 ⟨by decide, ⟨8, .chain⟩, by simp, by kernel_rfl, rfl⟩ rfl rfl)
      have g60 := some_bool k60
      have k61 : b5.tmps[61]?.getD undef = .agg #[.bool (decide (q < 0)), .slice Aq nq cq] := (Array.getD_eq_getD_getElem? ..).symm.trans (hf.at_.vals 9 _ 61 ⟨by decide, ⟨9, .data⟩, by simp, by kernel_rfl, rfl⟩ rfl rfl)
      have k62 : b5.tmps[62]?.getD undef = .agg #[.bool (decide (q < 0)), .slice Ap np cp] := (Array.getD_eq_getD_getElem? ..).symm.trans (hf.at_.vals 10 _ 62 ⟨by decide, ⟨10, .data⟩, by simp, by kernel_rfl, rfl⟩ rfl rfl)
      have ct := lawsame_t (nv3 W5 (dn0 W5 hf.at_.cls)) (nv5 W5 (dn0 W5 hf.at_.cls)) (show q = q from by grind)
      refine wpOpIn_step rfl (fun K' hK' => ?_)
      go_simp
      refine CallsIn.mono (callsIn_wide.2 ct) ?_
      rintro e W' ⟨rfl, hb⟩
      exact hK' _ _ (hK _ _ rfl hb (fun h => by cases h))
    case h12 =>
      intro _ o hi b5 W5 hf K hK
      cases hi
      have k60 : b5.tmps[60]?.getD undef = .bool false := (Array.getD_eq_getD_getElem? ..).symm.trans (hf.at_.vals 8 _ 60 ⟨by decide, ⟨8, .guard⟩, by simp, by kernel_rfl, rfl⟩ rfl rfl)
      have g60 := some_bool k60
      have k63 : b5.tmps[63]?.getD undef = .bool true := (Array.getD_eq_getD_getElem? ..).symm.trans (hf.at_.vals 11 _ 63 ⟨by decide, ⟨11, .data⟩, by simp, by kernel_rfl, rfl⟩ rfl rfl)
      refine wpOpIn_step rfl (fun K' hK' => ?_)
      go_simp
      exact hK' _ _ (hK _ _ rfl (Below.refl _ _) (fun h => by cases h))
    case h13 =>
      intro _ o hi b5 W5 hf K hK
      cases hi
      have k60 : b5.tmps[60]?.getD undef = .bool false := (Array.getD_eq_getD_getElem? ..).symm.trans (hf.at_.vals 8 _ 60 ⟨by decide, ⟨8, .data⟩, by simp, by kernel_rfl, rfl⟩ rfl rfl)
      have k64 : b5.tmps[64]?.getD undef = .bool false := (Array.getD_eq_getD_getElem? ..).symm.trans (hf.at_.vals 12 _ 64 ⟨by decide, ⟨12, .data⟩, by simp, by kernel_rfl, rfl⟩ rfl rfl)
      refine wpOpIn_step rfl (fun K' hK' => ?_)
      go_simp
      exact hK' _ _ (hK _ _ rfl (Below.refl _ _) (fun h => by cases h))
    case h14 =>
      intro _ o hi b5 W5 hf K hK
      cases hi
      have k65 : b5.tmps[65]?.getD undef = .bool false := (Array.getD_eq_getD_getElem? ..).symm.trans (hf.at_.vals 13 _ 65 ⟨by decide, ⟨13, .data⟩, by simp, by kernel_rfl, rfl⟩ rfl rfl)
      refine wpOpIn_step rfl (fun K' hK' => ?_)
      go_simp
      exact hK' _ _ (hK _ _ rfl (Below.refl _ _) (fun h => by cases h))
    case h15 =>
      intro _ o hi b5 W5 hf K hK
      cases hi
      have k66 : b5.tmps[66]?.getD undef = .bool false := (Array.getD_eq_getD_getElem? ..).symm.trans (hf.at_.vals 14 _ 66 ⟨by decide, ⟨14, .guard⟩, by simp, by kernel_rfl, rfl⟩ rfl rfl)
      have g66 := some_bool k66
      have k14 : b5.tmps[14]?.getD undef = .pointer (some ⟨w3.heap.size + 1, 0, none⟩) := (Array.getD_eq_getD_getElem? ..).symm.trans ((hf.at_.keep 14 (by kernel_rfl)).trans (by kernel_rfl))
      obtain ⟨⟨⟨q1, q2⟩, q3, q4⟩, ⟨⟨q5, q6⟩, q7, q8⟩, ⟨q9, q10⟩, q11, q12⟩ := cf0 W5 hf.at_.cls
      refine wpOpIn_step rfl (fun K' hK' => ?_)
      go_simp
      exact hK' _ _ (hK _ _ rfl (Below.refl _ _) (fun h => by cases h))
    case h16 =>
      intro _ o hi b5 W5 hf K hK
      cases hi
      have k66 : b5.tmps[66]?.getD undef = .bool false := (Array.getD_eq_getD_getElem? ..).symm.trans (hf.at_.vals 14 _ 66 ⟨by decide, ⟨14, .guard⟩, by simp, by kernel_rfl, rfl⟩ rfl rfl)
      have g66 := some_bool k66
      have k17 : b5.tmps[17]?.getD undef = .pointer (some ⟨w5.heap.size + 1, 0, none⟩) := (Array.getD_eq_getD_getElem? ..).symm.trans ((hf.at_.keep 17 (by kernel_rfl)).trans (by kernel_rfl))
      obtain ⟨⟨⟨q1, q2⟩, q3, q4⟩, ⟨⟨q5, q6⟩, q7, q8⟩, ⟨q9, q10⟩, q11, q12⟩ := cf0 W5 hf.at_.cls
      refine wpOpIn_step rfl (fun K' hK' => ?_)
      go_simp
      exact hK' _ _ (hK _ _ rfl (Below.refl _ _) (fun h => by cases h))
    case h17 =>
      intro _ o hi b5 W5 hf K hK
      cases hi
      have k66 : b5.tmps[66]?.getD undef = .bool false := (Array.getD_eq_getD_getElem? ..).symm.trans (hf.at_.vals 14 _ 66 ⟨by decide, ⟨14, .chain⟩, by simp, by kernel_rfl, rfl⟩ rfl rfl)
      have g66 := some_bool k66
      have k67 : b5.tmps[67]?.getD undef = .agg #[.bool (decide (r < 0)), .slice Ar nr cr] := (Array.getD_eq_getD_getElem? ..).symm.trans (hf.at_.vals 15 _ 67 ⟨by decide, ⟨15, .data⟩, by simp, by kernel_rfl, rfl⟩ rfl rfl)
      have k68 : b5.tmps[68]?.getD undef = .agg #[.bool (decide (r < 0)), .slice At nt ct] := (Array.getD_eq_getD_getElem? ..).symm.trans (hf.at_.vals 16 _ 68 ⟨by decide, ⟨16, .data⟩, by simp, by kernel_rfl, rfl⟩ rfl rfl)
      have ct := lawsame_t (nv4 W5 (dn0 W5 hf.at_.cls)) (nv6 W5 (dn0 W5 hf.at_.cls)) (show r = r from by grind)
      refine wpOpIn_step rfl (fun K' hK' => ?_)
      go_simp
      refine CallsIn.mono (callsIn_wide.2 ct) ?_
      rintro e W' ⟨rfl, hb⟩
      exact hK' _ _ (hK _ _ rfl hb (fun h => by cases h))
    case h18 =>
      intro _ o hi b5 W5 hf K hK
      cases hi
      have k66 : b5.tmps[66]?.getD undef = .bool false := (Array.getD_eq_getD_getElem? ..).symm.trans (hf.at_.vals 14 _ 66 ⟨by decide, ⟨14, .guard⟩, by simp, by kernel_rfl, rfl⟩ rfl rfl)
      have g66 := some_bool k66
      have k69 : b5.tmps[69]?.getD undef = .bool true := (Array.getD_eq_getD_getElem? ..).symm.trans (hf.at_.vals 17 _ 69 ⟨by decide, ⟨17, .data⟩, by simp, by kernel_rfl, rfl⟩ rfl rfl)
      refine wpOpIn_step rfl (fun K' hK' => ?_)
      go_simp
      exact hK' _ _ (hK _ _ rfl (Below.refl _ _) (fun h => by cases h))
    case h19 =>
      intro _ o hi b5 W5 hf K hK
      cases hi
      have k66 : b5.tmps[66]?.getD undef = .bool false := (Array.getD_eq_getD_getElem? ..).symm.trans (hf.at_.vals 14 _ 66 ⟨by decide, ⟨14, .data⟩, by simp, by kernel_rfl, rfl⟩ rfl rfl)
      have k70 : b5.tmps[70]?.getD undef = .bool false := (Array.getD_eq_getD_getElem? ..).symm.trans (hf.at_.vals 18 _ 70 ⟨by decide, ⟨18, .data⟩, by simp, by kernel_rfl, rfl⟩ rfl rfl)
      refine wpOpIn_step rfl (fun K' hK' => ?_)
      go_simp
      exact hK' _ _ (hK _ _ rfl (Below.refl _ _) (fun h => by cases h))
    case h20 =>
      intro _ o hi b5 W5 hf K hK
      cases hi
      have k71 : b5.tmps[71]?.getD undef = .bool false := (Array.getD_eq_getD_getElem? ..).symm.trans (hf.at_.vals 19 _ 71 ⟨by decide, ⟨19, .data⟩, by simp, by kernel_rfl, rfl⟩ rfl rfl)
      refine wpOpIn_step rfl (fun K' hK' => ?_)
      go_simp
      exact hK' _ _ (hK _ _ rfl (Below.refl _ _) (fun h => by cases h))
    case h21 =>
      intro _ o hi b5 W5 hf K hK
      cases hi
      have k72 : b5.tmps[72]?.getD undef = .bool false := (Array.getD_eq_getD_getElem? ..).symm.trans (hf.at_.vals 20 _ 72 ⟨by decide, ⟨20, .guard⟩, by simp, by kernel_rfl, rfl⟩ rfl rfl)
      have g72 := some_bool k72
      have k15 : b5.tmps[15]?.getD undef = .int .i64 er := (Array.getD_eq_getD_getElem? ..).symm.trans ((hf.at_.keep 15 (by kernel_rfl)).trans (by kernel_rfl))
      refine wpOpIn_step rfl (fun K' hK' => ?_)
      go_simp
      exact hK' _ _ (hK _ _ rfl (Below.refl _ _) (fun h => by cases h))
    case h22 =>
      intro _ o hi b5 W5 hf K hK
      cases hi
      have k72 : b5.tmps[72]?.getD undef = .bool false := (Array.getD_eq_getD_getElem? ..).symm.trans (hf.at_.vals 20 _ 72 ⟨by decide, ⟨20, .guard⟩, by simp, by kernel_rfl, rfl⟩ rfl rfl)
      have g72 := some_bool k72
      have k18 : b5.tmps[18]?.getD undef = .int .i64 er := (Array.getD_eq_getD_getElem? ..).symm.trans ((hf.at_.keep 18 (by kernel_rfl)).trans (by kernel_rfl))
      refine wpOpIn_step rfl (fun K' hK' => ?_)
      go_simp
      exact hK' _ _ (hK _ _ rfl (Below.refl _ _) (fun h => by cases h))
    case h23 =>
      intro _ o hi b5 W5 hf K hK
      cases hi
      have k72 : b5.tmps[72]?.getD undef = .bool false := (Array.getD_eq_getD_getElem? ..).symm.trans (hf.at_.vals 20 _ 72 ⟨by decide, ⟨20, .guard⟩, by simp, by kernel_rfl, rfl⟩ rfl rfl)
      have g72 := some_bool k72
      have k73 : b5.tmps[73]?.getD undef = .int .i64 er := (Array.getD_eq_getD_getElem? ..).symm.trans (hf.at_.vals 21 _ 73 ⟨by decide, ⟨21, .data⟩, by simp, by kernel_rfl, rfl⟩ rfl rfl)
      have k74 : b5.tmps[74]?.getD undef = .int .i64 er := (Array.getD_eq_getD_getElem? ..).symm.trans (hf.at_.vals 22 _ 74 ⟨by decide, ⟨22, .data⟩, by simp, by kernel_rfl, rfl⟩ rfl rfl)
      refine wpOpIn_step rfl (fun K' hK' => ?_)
      go_simp
      try simp only [bne_self_eq_false, beq_self_eq_true, Bool.not_true]
      exact hK' _ _ (hK _ _ rfl (Below.refl _ _) (fun h => by cases h))
    case h24 =>
      intro _ o hi b5 W5 hf K hK
      cases hi
      have k72 : b5.tmps[72]?.getD undef = .bool false := (Array.getD_eq_getD_getElem? ..).symm.trans (hf.at_.vals 20 _ 72 ⟨by decide, ⟨20, .data⟩, by simp, by kernel_rfl, rfl⟩ rfl rfl)
      have k75 : b5.tmps[75]?.getD undef = .bool false := (Array.getD_eq_getD_getElem? ..).symm.trans (hf.at_.vals 23 _ 75 ⟨by decide, ⟨23, .data⟩, by simp, by kernel_rfl, rfl⟩ rfl rfl)
      refine wpOpIn_step rfl (fun K' hK' => ?_)
      go_simp
      exact hK' _ _ (hK _ _ rfl (Below.refl _ _) (fun h => by cases h))
    case h25 =>
      intro _ o hi b5 W5 hf K hK
      cases hi
      have k76 : b5.tmps[76]?.getD undef = .bool false := (Array.getD_eq_getD_getElem? ..).symm.trans (hf.at_.vals 24 _ 76 ⟨by decide, ⟨24, .data⟩, by simp, by kernel_rfl, rfl⟩ rfl rfl)
      refine wpOpIn_step rfl (fun K' hK' => ?_)
      go_simp
      exact hK' _ _ (hK _ _ rfl (Below.refl _ _) (fun h => by cases h))
    case h26 =>
      intro _ o hi b5 W5 hf K hK
      cases hi
      have k77 : b5.tmps[77]?.getD undef = .bool false := (Array.getD_eq_getD_getElem? ..).symm.trans (hf.at_.vals 25 _ 77 ⟨by decide, ⟨25, .guard⟩, by simp, by kernel_rfl, rfl⟩ rfl rfl)
      have g77 := some_bool k77
      have k4 : b5.tmps[4]?.getD undef = .pointer (some ⟨w.heap.size, 0, none⟩) := (Array.getD_eq_getD_getElem? ..).symm.trans ((hf.at_.keep 4 (by kernel_rfl)).trans (by kernel_rfl))
      obtain ⟨⟨⟨q1, q2⟩, q3, q4⟩, ⟨⟨q5, q6⟩, q7, q8⟩, ⟨q9, q10⟩, q11, q12⟩ := cf0 W5 hf.at_.cls
      refine wpOpIn_step rfl (fun K' hK' => ?_)
      go_simp
      exact hK' _ _ (hK _ _ rfl (Below.refl _ _) (fun h => by cases h))
    case h27 =>
      intro _ o hi b5 W5 hf K hK
      cases hi
      have k77 : b5.tmps[77]?.getD undef = .bool false := (Array.getD_eq_getD_getElem? ..).symm.trans (hf.at_.vals 25 _ 77 ⟨by decide, ⟨25, .chain⟩, by simp, by kernel_rfl, rfl⟩ rfl rfl)
      have g77 := some_bool k77
      have k78 : b5.tmps[78]?.getD undef = .agg #[.bool s, .slice A n c] := (Array.getD_eq_getD_getElem? ..).symm.trans (hf.at_.vals 26 _ 78 ⟨by decide, ⟨26, .data⟩, by simp, by kernel_rfl, rfl⟩ rfl rfl)
      have ct := sign_v (UV.mono (ua W5 (up0 W5 hf.at_.cls)) (m' := 60) (by decide)) (by decide)
      refine wpOpIn_step rfl (fun K' hK' => ?_)
      go_simp
      refine CallsIn.mono (callsIn_wide.2 ct) ?_
      rintro e W' ⟨rfl, hb⟩
      exact hK' _ _ (hK _ _ rfl hb (fun h => by cases h))
    case h28 =>
      intro _ o hi b5 W5 hf K hK
      cases hi
      have k77 : b5.tmps[77]?.getD undef = .bool false := (Array.getD_eq_getD_getElem? ..).symm.trans (hf.at_.vals 25 _ 77 ⟨by decide, ⟨25, .guard⟩, by simp, by kernel_rfl, rfl⟩ rfl rfl)
      have g77 := some_bool k77
      have k4 : b5.tmps[4]?.getD undef = .pointer (some ⟨w.heap.size, 0, none⟩) := (Array.getD_eq_getD_getElem? ..).symm.trans ((hf.at_.keep 4 (by kernel_rfl)).trans (by kernel_rfl))
      obtain ⟨⟨⟨q1, q2⟩, q3, q4⟩, ⟨⟨q5, q6⟩, q7, q8⟩, ⟨q9, q10⟩, q11, q12⟩ := cf0 W5 hf.at_.cls
      refine wpOpIn_step rfl (fun K' hK' => ?_)
      go_simp
      exact hK' _ _ (hK _ _ rfl (Below.refl _ _) (fun h => by cases h))
    case h29 =>
      intro _ o hi b5 W5 hf K hK
      cases hi
      have k77 : b5.tmps[77]?.getD undef = .bool false := (Array.getD_eq_getD_getElem? ..).symm.trans (hf.at_.vals 25 _ 77 ⟨by decide, ⟨25, .guard⟩, by simp, by kernel_rfl, rfl⟩ rfl rfl)
      have g77 := some_bool k77
      have k80 : b5.tmps[80]?.getD undef = .agg #[.bool s, .slice A n c] := (Array.getD_eq_getD_getElem? ..).symm.trans (hf.at_.vals 28 _ 80 ⟨by decide, ⟨28, .data⟩, by simp, by kernel_rfl, rfl⟩ rfl rfl)
      have ct := r5sign_v (UV.mono (ua W5 (up0 W5 hf.at_.cls)) (m' := 60) (by decide)) (by decide)
      refine wpOpIn_step rfl (fun K' hK' => ?_)
      go_simp
      refine CallsIn.mono (callsIn_wide.2 ct) ?_
      rintro e W' ⟨rfl, hb⟩
      exact hK' _ _ (hK _ _ rfl hb (fun h => by cases h))
    case h30 =>
      intro _ o hi b5 W5 hf K hK
      cases hi
      have k77 : b5.tmps[77]?.getD undef = .bool false := (Array.getD_eq_getD_getElem? ..).symm.trans (hf.at_.vals 25 _ 77 ⟨by decide, ⟨25, .guard⟩, by simp, by kernel_rfl, rfl⟩ rfl rfl)
      have g77 := some_bool k77
      have k79 : b5.tmps[79]?.getD undef = .int .i64 va.sign := (Array.getD_eq_getD_getElem? ..).symm.trans (hf.at_.vals 27 _ 79 ⟨by decide, ⟨27, .data⟩, by simp, by kernel_rfl, rfl⟩ rfl rfl)
      have k81 : b5.tmps[81]?.getD undef = .int .i64 va.sign := (Array.getD_eq_getD_getElem? ..).symm.trans (hf.at_.vals 29 _ 81 ⟨by decide, ⟨29, .data⟩, by simp, by kernel_rfl, rfl⟩ rfl rfl)
      refine wpOpIn_step rfl (fun K' hK' => ?_)
      go_simp
      try simp only [bne_self_eq_false, beq_self_eq_true, Bool.not_true]
      exact hK' _ _ (hK _ _ rfl (Below.refl _ _) (fun h => by cases h))
    case h31 =>
      intro _ o hi b5 W5 hf K hK
      cases hi
      have k77 : b5.tmps[77]?.getD undef = .bool false := (Array.getD_eq_getD_getElem? ..).symm.trans (hf.at_.vals 25 _ 77 ⟨by decide, ⟨25, .data⟩, by simp, by kernel_rfl, rfl⟩ rfl rfl)
      have k82 : b5.tmps[82]?.getD undef = .bool false := (Array.getD_eq_getD_getElem? ..).symm.trans (hf.at_.vals 30 _ 82 ⟨by decide, ⟨30, .data⟩, by simp, by kernel_rfl, rfl⟩ rfl rfl)
      refine wpOpIn_step rfl (fun K' hK' => ?_)
      go_simp
      exact hK' _ _ (hK _ _ rfl (Below.refl _ _) (fun h => by cases h))
    case h32 =>
      intro _ o hi b5 W5 hf K hK
      cases hi
      have k83 : b5.tmps[83]?.getD undef = .bool false := (Array.getD_eq_getD_getElem? ..).symm.trans (hf.at_.vals 31 _ 83 ⟨by decide, ⟨31, .data⟩, by simp, by kernel_rfl, rfl⟩ rfl rfl)
      refine wpOpIn_step rfl (fun K' hK' => ?_)
      go_simp
      exact hK' _ _ (hK _ _ rfl (Below.refl _ _) (fun h => by cases h))
    case h33 =>
      intro _ o hi b5 W5 hf K hK
      cases hi
      have k84 : b5.tmps[84]?.getD undef = .bool false := (Array.getD_eq_getD_getElem? ..).symm.trans (hf.at_.vals 32 _ 84 ⟨by decide, ⟨32, .guard⟩, by simp, by kernel_rfl, rfl⟩ rfl rfl)
      have g84 := some_bool k84
      have k4 : b5.tmps[4]?.getD undef = .pointer (some ⟨w.heap.size, 0, none⟩) := (Array.getD_eq_getD_getElem? ..).symm.trans ((hf.at_.keep 4 (by kernel_rfl)).trans (by kernel_rfl))
      obtain ⟨⟨⟨q1, q2⟩, q3, q4⟩, ⟨⟨q5, q6⟩, q7, q8⟩, ⟨q9, q10⟩, q11, q12⟩ := cf0 W5 hf.at_.cls
      refine wpOpIn_step rfl (fun K' hK' => ?_)
      go_simp
      exact hK' _ _ (hK _ _ rfl (Below.refl _ _) (fun h => by cases h))
    case h34 =>
      intro _ o hi b5 W5 hf K hK
      cases hi
      have k84 : b5.tmps[84]?.getD undef = .bool false := (Array.getD_eq_getD_getElem? ..).symm.trans (hf.at_.vals 32 _ 84 ⟨by decide, ⟨32, .guard⟩, by simp, by kernel_rfl, rfl⟩ rfl rfl)
      have g84 := some_bool k84
      have k5 : b5.tmps[5]?.getD undef = .pointer (some ⟨w.heap.size + 1, 0, none⟩) := (Array.getD_eq_getD_getElem? ..).symm.trans ((hf.at_.keep 5 (by kernel_rfl)).trans (by kernel_rfl))
      obtain ⟨⟨⟨q1, q2⟩, q3, q4⟩, ⟨⟨q5, q6⟩, q7, q8⟩, ⟨q9, q10⟩, q11, q12⟩ := cf0 W5 hf.at_.cls
      refine wpOpIn_step rfl (fun K' hK' => ?_)
      go_simp
      exact hK' _ _ (hK _ _ rfl (Below.refl _ _) (fun h => by cases h))
    case h35 =>
      intro _ o hi b5 W5 hf K hK
      cases hi
      have k84 : b5.tmps[84]?.getD undef = .bool false := (Array.getD_eq_getD_getElem? ..).symm.trans (hf.at_.vals 32 _ 84 ⟨by decide, ⟨32, .chain⟩, by simp, by kernel_rfl, rfl⟩ rfl rfl)
      have g84 := some_bool k84
      have k85 : b5.tmps[85]?.getD undef = .agg #[.bool s, .slice A n c] := (Array.getD_eq_getD_getElem? ..).symm.trans (hf.at_.vals 33 _ 85 ⟨by decide, ⟨33, .data⟩, by simp, by kernel_rfl, rfl⟩ rfl rfl)
      have k86 : b5.tmps[86]?.getD undef = .agg #[.bool s', .slice A' n' c'] := (Array.getD_eq_getD_getElem? ..).symm.trans (hf.at_.vals 34 _ 86 ⟨by decide, ⟨34, .data⟩, by simp, by kernel_rfl, rfl⟩ rfl rfl)
      have ct := HCMP.out W5 _ _ (UV.mono (ua W5 (up0 W5 hf.at_.cls)) (m' := 60) (by decide)) (UV.mono (ub W5 (up0 W5 hf.at_.cls)) (m' := 60) (by decide))
      refine wpOpIn_step rfl (fun K' hK' => ?_)
      go_simp
      refine CallsIn.mono (callsIn_wide.2 ct) ?_
      rintro e W' ⟨rfl, hb⟩
      exact hK' _ _ (hK _ _ rfl hb (fun h => by cases h))
    case h36 =>
      intro _ o hi b5 W5 hf K hK
      cases hi
      have k84 : b5.tmps[84]?.getD undef = .bool false := (Array.getD_eq_getD_getElem? ..).symm.trans (hf.at_.vals 32 _ 84 ⟨by decide, ⟨32, .guard⟩, by simp, by kernel_rfl, rfl⟩ rfl rfl)
      have g84 := some_bool k84
      have k4 : b5.tmps[4]?.getD undef = .pointer (some ⟨w.heap.size, 0, none⟩) := (Array.getD_eq_getD_getElem? ..).symm.trans ((hf.at_.keep 4 (by kernel_rfl)).trans (by kernel_rfl))
      obtain ⟨⟨⟨q1, q2⟩, q3, q4⟩, ⟨⟨q5, q6⟩, q7, q8⟩, ⟨q9, q10⟩, q11, q12⟩ := cf0 W5 hf.at_.cls
      refine wpOpIn_step rfl (fun K' hK' => ?_)
      go_simp
      exact hK' _ _ (hK _ _ rfl (Below.refl _ _) (fun h => by cases h))
    case h37 =>
      intro _ o hi b5 W5 hf K hK
      cases hi
      have k84 : b5.tmps[84]?.getD undef = .bool false := (Array.getD_eq_getD_getElem? ..).symm.trans (hf.at_.vals 32 _ 84 ⟨by decide, ⟨32, .guard⟩, by simp, by kernel_rfl, rfl⟩ rfl rfl)
      have g84 := some_bool k84
      have k5 : b5.tmps[5]?.getD undef = .pointer (some ⟨w.heap.size + 1, 0, none⟩) := (Array.getD_eq_getD_getElem? ..).symm.trans ((hf.at_.keep 5 (by kernel_rfl)).trans (by kernel_rfl))
      obtain ⟨⟨⟨q1, q2⟩, q3, q4⟩, ⟨⟨q5, q6⟩, q7, q8⟩, ⟨q9, q10⟩, q11, q12⟩ := cf0 W5 hf.at_.cls
      refine wpOpIn_step rfl (fun K' hK' => ?_)
      go_simp
      exact hK' _ _ (hK _ _ rfl (Below.refl _ _) (fun h => by cases h))
    case h38 =>
      intro _ o hi b5 W5 hf K hK
      cases hi
      have k84 : b5.tmps[84]?.getD undef = .bool false := (Array.getD_eq_getD_getElem? ..).symm.trans (hf.at_.vals 32 _ 84 ⟨by decide, ⟨32, .guard⟩, by simp, by kernel_rfl, rfl⟩ rfl rfl)
      have g84 := some_bool k84
      have k88 : b5.tmps[88]?.getD undef = .agg #[.bool s, .slice A n c] := (Array.getD_eq_getD_getElem? ..).symm.trans (hf.at_.vals 36 _ 88 ⟨by decide, ⟨36, .data⟩, by simp, by kernel_rfl, rfl⟩ rfl rfl)
      have k89 : b5.tmps[89]?.getD undef = .agg #[.bool s', .slice A' n' c'] := (Array.getD_eq_getD_getElem? ..).symm.trans (hf.at_.vals 37 _ 89 ⟨by decide, ⟨37, .data⟩, by simp, by kernel_rfl, rfl⟩ rfl rfl)
      have ct := HCMP5.out W5 _ _ (UV.mono (ua W5 (up0 W5 hf.at_.cls)) (m' := 60) (by decide)) (UV.mono (ub W5 (up0 W5 hf.at_.cls)) (m' := 60) (by decide))
      refine wpOpIn_step rfl (fun K' hK' => ?_)
      go_simp
      refine CallsIn.mono (callsIn_wide.2 ct) ?_
      rintro e W' ⟨rfl, hb⟩
      exact hK' _ _ (hK _ _ rfl hb (fun h => by cases h))
    case h39 =>
      intro _ o hi b5 W5 hf K hK
      cases hi
      have k84 : b5.tmps[84]?.getD undef = .bool false := (Array.getD_eq_getD_getElem? ..).symm.trans (hf.at_.vals 32 _ 84 ⟨by decide, ⟨32, .guard⟩, by simp, by kernel_rfl, rfl⟩ rfl rfl)
      have g84 := some_bool k84
      have k87 : b5.tmps[87]?.getD undef = .int .i64 sg5 := (Array.getD_eq_getD_getElem? ..).symm.trans (hf.at_.vals 35 _ 87 ⟨by decide, ⟨35, .data⟩, by simp, by kernel_rfl, rfl⟩ rfl rfl)
      have k90 : b5.tmps[90]?.getD undef = .int .i64 sg5 := (Array.getD_eq_getD_getElem? ..).symm.trans (hf.at_.vals 38 _ 90 ⟨by decide, ⟨38, .data⟩, by simp, by kernel_rfl, rfl⟩ rfl rfl)
      refine wpOpIn_step rfl (fun K' hK' => ?_)
      go_simp
      try simp only [bne_self_eq_false, beq_self_eq_true, Bool.not_true]
      exact hK' _ _ (hK _ _ rfl (Below.refl _ _) (fun h => by cases h))
    case h40 =>
      intro _ o hi b5 W5 hf K hK
      cases hi
      have k84 : b5.tmps[84]?.getD undef = .bool false := (Array.getD_eq_getD_getElem? ..).symm.trans (hf.at_.vals 32 _ 84 ⟨by decide, ⟨32, .data⟩, by simp, by kernel_rfl, rfl⟩ rfl rfl)
      have k91 : b5.tmps[91]?.getD undef = .bool false := (Array.getD_eq_getD_getElem? ..).symm.trans (hf.at_.vals 39 _ 91 ⟨by decide, ⟨39, .data⟩, by simp, by kernel_rfl, rfl⟩ rfl rfl)
      refine wpOpIn_step rfl (fun K' hK' => ?_)
      go_simp
      exact hK' _ _ (hK _ _ rfl (Below.refl _ _) (fun h => by cases h))
    case h41 =>
      intro _ o hi b5 W5 hf K hK
      cases hi
      have k92 : b5.tmps[92]?.getD undef = .bool false := (Array.getD_eq_getD_getElem? ..).symm.trans (hf.at_.vals 40 _ 92 ⟨by decide, ⟨40, .data⟩, by simp, by kernel_rfl, rfl⟩ rfl rfl)
      refine wpOpIn_step rfl (fun K' hK' => ?_)
      go_simp
      exact hK' _ _ (hK _ _ rfl (Below.refl _ _) (fun h => by cases h))
    case h42 =>
      intro _ o hi b5 W5 hf K hK
      cases hi
      have k93 : b5.tmps[93]?.getD undef = .bool false := (Array.getD_eq_getD_getElem? ..).symm.trans (hf.at_.vals 41 _ 93 ⟨by decide, ⟨41, .guard⟩, by simp, by kernel_rfl, rfl⟩ rfl rfl)
      have g93 := some_bool k93
      have k4 : b5.tmps[4]?.getD undef = .pointer (some ⟨w.heap.size, 0, none⟩) := (Array.getD_eq_getD_getElem? ..).symm.trans ((hf.at_.keep 4 (by kernel_rfl)).trans (by kernel_rfl))
      obtain ⟨⟨⟨q1, q2⟩, q3, q4⟩, ⟨⟨q5, q6⟩, q7, q8⟩, ⟨q9, q10⟩, q11, q12⟩ := cf0 W5 hf.at_.cls
      refine wpOpIn_step rfl (fun K' hK' => ?_)
      go_simp
      exact hK' _ _ (hK _ _ rfl (Below.refl _ _) (fun h => by cases h))
    case h43 =>
      intro _ o hi b5 W5 hf K hK
      cases hi
      have k93 : b5.tmps[93]?.getD undef = .bool false := (Array.getD_eq_getD_getElem? ..).symm.trans (hf.at_.vals 41 _ 93 ⟨by decide, ⟨41, .guard⟩, by simp, by kernel_rfl, rfl⟩ rfl rfl)
      have g93 := some_bool k93
      have k5 : b5.tmps[5]?.getD undef = .pointer (some ⟨w.heap.size + 1, 0, none⟩) := (Array.getD_eq_getD_getElem? ..).symm.trans ((hf.at_.keep 5 (by kernel_rfl)).trans (by kernel_rfl))
      obtain ⟨⟨⟨q1, q2⟩, q3, q4⟩, ⟨⟨q5, q6⟩, q7, q8⟩, ⟨q9, q10⟩, q11, q12⟩ := cf0 W5 hf.at_.cls
      refine wpOpIn_step rfl (fun K' hK' => ?_)
      go_simp
      exact hK' _ _ (hK _ _ rfl (Below.refl _ _) (fun h => by cases h))
    case h44 =>
      intro _ o hi b5 W5 hf K hK
      cases hi
      have k93 : b5.tmps[93]?.getD undef = .bool false := (Array.getD_eq_getD_getElem? ..).symm.trans (hf.at_.vals 41 _ 93 ⟨by decide, ⟨41, .chain⟩, by simp, by kernel_rfl, rfl⟩ rfl rfl)
      have g93 := some_bool k93
      have k94 : b5.tmps[94]?.getD undef = .agg #[.bool s, .slice A n c] := (Array.getD_eq_getD_getElem? ..).symm.trans (hf.at_.vals 42 _ 94 ⟨by decide, ⟨42, .data⟩, by simp, by kernel_rfl, rfl⟩ rfl rfl)
      have k95 : b5.tmps[95]?.getD undef = .agg #[.bool s', .slice A' n' c'] := (Array.getD_eq_getD_getElem? ..).symm.trans (hf.at_.vals 43 _ 95 ⟨by decide, ⟨43, .data⟩, by simp, by kernel_rfl, rfl⟩ rfl rfl)
      have ct := HSM.out W5 _ _ (UV.mono (ua W5 (up0 W5 hf.at_.cls)) (m' := 60) (by decide)) (UV.mono (ub W5 (up0 W5 hf.at_.cls)) (m' := 60) (by decide))
      refine wpOpIn_step rfl (fun K' hK' => ?_)
      go_simp
      refine CallsIn.mono (callsIn_wide.2 ct) ?_
      rintro e W' ⟨rfl, hb⟩
      exact hK' _ _ (hK _ _ rfl hb (fun h => by cases h))
    case h45 =>
      intro _ o hi b5 W5 hf K hK
      cases hi
      have k93 : b5.tmps[93]?.getD undef = .bool false := (Array.getD_eq_getD_getElem? ..).symm.trans (hf.at_.vals 41 _ 93 ⟨by decide, ⟨41, .guard⟩, by simp, by kernel_rfl, rfl⟩ rfl rfl)
      have g93 := some_bool k93
      have k4 : b5.tmps[4]?.getD undef = .pointer (some ⟨w.heap.size, 0, none⟩) := (Array.getD_eq_getD_getElem? ..).symm.trans ((hf.at_.keep 4 (by kernel_rfl)).trans (by kernel_rfl))
      obtain ⟨⟨⟨q1, q2⟩, q3, q4⟩, ⟨⟨q5, q6⟩, q7, q8⟩, ⟨q9, q10⟩, q11, q12⟩ := cf0 W5 hf.at_.cls
      refine wpOpIn_step rfl (fun K' hK' => ?_)
      go_simp
      exact hK' _ _ (hK _ _ rfl (Below.refl _ _) (fun h => by cases h))
    case h46 =>
      intro _ o hi b5 W5 hf K hK
      cases hi
      have k93 : b5.tmps[93]?.getD undef = .bool false := (Array.getD_eq_getD_getElem? ..).symm.trans (hf.at_.vals 41 _ 93 ⟨by decide, ⟨41, .guard⟩, by simp, by kernel_rfl, rfl⟩ rfl rfl)
      have g93 := some_bool k93
      have k5 : b5.tmps[5]?.getD undef = .pointer (some ⟨w.heap.size + 1, 0, none⟩) := (Array.getD_eq_getD_getElem? ..).symm.trans ((hf.at_.keep 5 (by kernel_rfl)).trans (by kernel_rfl))
      obtain ⟨⟨⟨q1, q2⟩, q3, q4⟩, ⟨⟨q5, q6⟩, q7, q8⟩, ⟨q9, q10⟩, q11, q12⟩ := cf0 W5 hf.at_.cls
      refine wpOpIn_step rfl (fun K' hK' => ?_)
      go_simp
      exact hK' _ _ (hK _ _ rfl (Below.refl _ _) (fun h => by cases h))
    case h47 =>
      intro _ o hi b5 W5 hf K hK
      cases hi
      have k93 : b5.tmps[93]?.getD undef = .bool false := (Array.getD_eq_getD_getElem? ..).symm.trans (hf.at_.vals 41 _ 93 ⟨by decide, ⟨41, .guard⟩, by simp, by kernel_rfl, rfl⟩ rfl rfl)
      have g93 := some_bool k93
      have k97 : b5.tmps[97]?.getD undef = .agg #[.bool s, .slice A n c] := (Array.getD_eq_getD_getElem? ..).symm.trans (hf.at_.vals 45 _ 97 ⟨by decide, ⟨45, .data⟩, by simp, by kernel_rfl, rfl⟩ rfl rfl)
      have k98 : b5.tmps[98]?.getD undef = .agg #[.bool s', .slice A' n' c'] := (Array.getD_eq_getD_getElem? ..).symm.trans (hf.at_.vals 46 _ 98 ⟨by decide, ⟨46, .data⟩, by simp, by kernel_rfl, rfl⟩ rfl rfl)
      have ct := HSM5.out W5 _ _ (UV.mono (ua W5 (up0 W5 hf.at_.cls)) (m' := 60) (by decide)) (UV.mono (ub W5 (up0 W5 hf.at_.cls)) (m' := 60) (by decide))
      refine wpOpIn_step rfl (fun K' hK' => ?_)
      go_simp
      refine CallsIn.mono (callsIn_wide.2 ct) ?_
      rintro e W' ⟨rfl, hb⟩
      exact hK' _ _ (hK _ _ rfl hb (fun h => by cases h))
    case h48 =>
      intro _ o hi b5 W5 hf K hK
      cases hi
      have k93 : b5.tmps[93]?.getD undef = .bool false := (Array.getD_eq_getD_getElem? ..).symm.trans (hf.at_.vals 41 _ 93 ⟨by decide, ⟨41, .guard⟩, by simp, by kernel_rfl, rfl⟩ rfl rfl)
      have g93 := some_bool k93
      have k96 : b5.tmps[96]?.getD undef = .bool sm5 := (Array.getD_eq_getD_getElem? ..).symm.trans (hf.at_.vals 44 _ 96 ⟨by decide, ⟨44, .data⟩, by simp, by kernel_rfl, rfl⟩ rfl rfl)
      have k99 : b5.tmps[99]?.getD undef = .bool sm5 := (Array.getD_eq_getD_getElem? ..).symm.trans (hf.at_.vals 47 _ 99 ⟨by decide, ⟨47, .data⟩, by simp, by kernel_rfl, rfl⟩ rfl rfl)
      refine wpOpIn_step rfl (fun K' hK' => ?_)
      go_simp
      try simp only [bne_self_eq_false, beq_self_eq_true, Bool.not_true]
      exact hK' _ _ (hK _ _ rfl (Below.refl _ _) (fun h => by cases h))
    case h49 =>
      intro _ o hi b5 W5 hf K hK
      cases hi
      have k93 : b5.tmps[93]?.getD undef = .bool false := (Array.getD_eq_getD_getElem? ..).symm.trans (hf.at_.vals 41 _ 93 ⟨by decide, ⟨41, .data⟩, by simp, by kernel_rfl, rfl⟩ rfl rfl)
      have k100 : b5.tmps[100]?.getD undef = .bool false := (Array.getD_eq_getD_getElem? ..).symm.trans (hf.at_.vals 48 _ 100 ⟨by decide, ⟨48, .data⟩, by simp, by kernel_rfl, rfl⟩ rfl rfl)
      refine wpOpIn_step rfl (fun K' hK' => ?_)
      go_simp
      exact hK' _ _ (hK _ _ rfl (Below.refl _ _) (fun h => by cases h))
  case fin =>
    intro b5 W7 hf
    have e101 : b5.tmps.getD 101 undef = .bool false := hf.at_.vals 49 _ 101 ⟨by decide, by decide⟩ rfl rfl
    have hE := frame_eq [52, 53, 54, 55, 56, 57, 58, 59, 60, 61, 62, 63, 64, 65, 66, 67, 68, 69, 70, 71, 72, 73, 74, 75, 76, 77, 78, 79, 80, 81, 82, 83, 84, 85, 86, 87, 88, 89, 90, 91, 92, 93, 94, 95, 96, 97, 98, 99, 100, 101] hf.at_.size (fun t ht5 => hf.at_.keep t (not_dst (by rw [show dstList _ _ = [52, 53, 54, 55, 56, 57, 58, 59, 60, 61, 62, 63, 64, 65, 66, 67, 68, 69, 70, 71, 72, 73, 74, 75, 76, 77, 78, 79, 80, 81, 82, 83, 84, 85, 86, 87, 88, 89, 90, 91, 92, 93, 94, 95, 96, 97, 98, 99, 100, 101] from by kernel_rfl]; exact ht5)))
    have hcl5 := hf.at_.cls
    obtain ⟨tm, df⟩ := b5
    obtain rfl : df = _ := hf.at_.defers
    clear hf
    simp only [List.foldl_cons, List.foldl_nil] at hE
    rw [show tm.getD 101 undef = _ from e101] at hE; clear e101
    obtain ⟨u52, hu52⟩ : ∃ x, tm.getD 52 undef = x := ⟨_, rfl⟩; rw [hu52] at hE; clear hu52
    obtain ⟨u53, hu53⟩ : ∃ x, tm.getD 53 undef = x := ⟨_, rfl⟩; rw [hu53] at hE; clear hu53
    obtain ⟨u54, hu54⟩ : ∃ x, tm.getD 54 undef = x := ⟨_, rfl⟩; rw [hu54] at hE; clear hu54
    obtain ⟨u55, hu55⟩ : ∃ x, tm.getD 55 undef = x := ⟨_, rfl⟩; rw [hu55] at hE; clear hu55
    obtain ⟨u56, hu56⟩ : ∃ x, tm.getD 56 undef = x := ⟨_, rfl⟩; rw [hu56] at hE; clear hu56
    obtain ⟨u57, hu57⟩ : ∃ x, tm.getD 57 undef = x := ⟨_, rfl⟩; rw [hu57] at hE; clear hu57
    obtain ⟨u58, hu58⟩ : ∃ x, tm.getD 58 undef = x := ⟨_, rfl⟩; rw [hu58] at hE; clear hu58
    obtain ⟨u59, hu59⟩ : ∃ x, tm.getD 59 undef = x := ⟨_, rfl⟩; rw [hu59] at hE; clear hu59
    obtain ⟨u60, hu60⟩ : ∃ x, tm.getD 60 undef = x := ⟨_, rfl⟩; rw [hu60] at hE; clear hu60
    obtain ⟨u61, hu61⟩ : ∃ x, tm.getD 61 undef = x := ⟨_, rfl⟩; rw [hu61] at hE; clear hu61
    obtain ⟨u62, hu62⟩ : ∃ x, tm.getD 62 undef = x := ⟨_, rfl⟩; rw [hu62] at hE; clear hu62
    obtain ⟨u63, hu63⟩ : ∃ x, tm.getD 63 undef = x := ⟨_, rfl⟩; rw [hu63] at hE; clear hu63
    obtain ⟨u64, hu64⟩ : ∃ x, tm.getD 64 undef = x := ⟨_, rfl⟩; rw [hu64] at hE; clear hu64
    obtain ⟨u65, hu65⟩ : ∃ x, tm.getD 65 undef = x := ⟨_, rfl⟩; rw [hu65] at hE; clear hu65
    obtain ⟨u66, hu66⟩ : ∃ x, tm.getD 66 undef = x := ⟨_, rfl⟩; rw [hu66] at hE; clear hu66
    obtain ⟨u67, hu67⟩ : ∃ x, tm.getD 67 undef = x := ⟨_, rfl⟩; rw [hu67] at hE; clear hu67
    obtain ⟨u68, hu68⟩ : ∃ x, tm.getD 68 undef = x := ⟨_, rfl⟩; rw [hu68] at hE; clear hu68
    obtain ⟨u69, hu69⟩ : ∃ x, tm.getD 69 undef = x := ⟨_, rfl⟩; rw [hu69] at hE; clear hu69
    obtain ⟨u70, hu70⟩ : ∃ x, tm.getD 70 undef = x := ⟨_, rfl⟩; rw [hu70] at hE; clear hu70
    obtain ⟨u71, hu71⟩ : ∃ x, tm.getD 71 undef = x := ⟨_, rfl⟩; rw [hu71] at hE; clear hu71
    obtain ⟨u72, hu72⟩ : ∃ x, tm.getD 72 undef = x := ⟨_, rfl⟩; rw [hu72] at hE; clear hu72
    obtain ⟨u73, hu73⟩ : ∃ x, tm.getD 73 undef = x := ⟨_, rfl⟩; rw [hu73] at hE; clear hu73
    obtain ⟨u74, hu74⟩ : ∃ x, tm.getD 74 undef = x := ⟨_, rfl⟩; rw [hu74] at hE; clear hu74
    obtain ⟨u75, hu75⟩ : ∃ x, tm.getD 75 undef = x := ⟨_, rfl⟩; rw [hu75] at hE; clear hu75
    obtain ⟨u76, hu76⟩ : ∃ x, tm.getD 76 undef = x := ⟨_, rfl⟩; rw [hu76] at hE; clear hu76
    obtain ⟨u77, hu77⟩ : ∃ x, tm.getD 77 undef = x := ⟨_, rfl⟩; rw [hu77] at hE; clear hu77
    obtain ⟨u78, hu78⟩ : ∃ x, tm.getD 78 undef = x := ⟨_, rfl⟩; rw [hu78] at hE; clear hu78
    obtain ⟨u79, hu79⟩ : ∃ x, tm.getD 79 undef = x := ⟨_, rfl⟩; rw [hu79] at hE; clear hu79
    obtain ⟨u80, hu80⟩ : ∃ x, tm.getD 80 undef = x := ⟨_, rfl⟩; rw [hu80] at hE; clear hu80
    obtain ⟨u81, hu81⟩ : ∃ x, tm.getD 81 undef = x := ⟨_, rfl⟩; rw [hu81] at hE; clear hu81
    obtain ⟨u82, hu82⟩ : ∃ x, tm.getD 82 undef = x := ⟨_, rfl⟩; rw [hu82] at hE; clear hu82
    obtain ⟨u83, hu83⟩ : ∃ x, tm.getD 83 undef = x := ⟨_, rfl⟩; rw [hu83] at hE; clear hu83
    obtain ⟨u84, hu84⟩ : ∃ x, tm.getD 84 undef = x := ⟨_, rfl⟩; rw [hu84] at hE; clear hu84
    obtain ⟨u85, hu85⟩ : ∃ x, tm.getD 85 undef = x := ⟨_, rfl⟩; rw [hu85] at hE; clear hu85
    obtain ⟨u86, hu86⟩ : ∃ x, tm.getD 86 undef = x := ⟨_, rfl⟩; rw [hu86] at hE; clear hu86
    obtain ⟨u87, hu87⟩ : ∃ x, tm.getD 87 undef = x := ⟨_, rfl⟩; rw [hu87] at hE; clear hu87
    obtain ⟨u88, hu88⟩ : ∃ x, tm.getD 88 undef = x := ⟨_, rfl⟩; rw [hu88] at hE; clear hu88
    obtain ⟨u89, hu89⟩ : ∃ x, tm.getD 89 undef = x := ⟨_, rfl⟩; rw [hu89] at hE; clear hu89
    obtain ⟨u90, hu90⟩ : ∃ x, tm.getD 90 undef = x := ⟨_, rfl⟩; rw [hu90] at hE; clear hu90
    obtain ⟨u91, hu91⟩ : ∃ x, tm.getD 91 undef = x := ⟨_, rfl⟩; rw [hu91] at hE; clear hu91
    obtain ⟨u92, hu92⟩ : ∃ x, tm.getD 92 undef = x := ⟨_, rfl⟩; rw [hu92] at hE; clear hu92
    obtain ⟨u93, hu93⟩ : ∃ x, tm.getD 93 undef = x := ⟨_, rfl⟩; rw [hu93] at hE; clear hu93
    obtain ⟨u94, hu94⟩ : ∃ x, tm.getD 94 undef = x := ⟨_, rfl⟩; rw [hu94] at hE; clear hu94
    obtain ⟨u95, hu95⟩ : ∃ x, tm.getD 95 undef = x := ⟨_, rfl⟩; rw [hu95] at hE; clear hu95
    obtain ⟨u96, hu96⟩ : ∃ x, tm.getD 96 undef = x := ⟨_, rfl⟩; rw [hu96] at hE; clear hu96
    obtain ⟨u97, hu97⟩ : ∃ x, tm.getD 97 undef = x := ⟨_, rfl⟩; rw [hu97] at hE; clear hu97
    obtain ⟨u98, hu98⟩ : ∃ x, tm.getD 98 undef = x := ⟨_, rfl⟩; rw [hu98] at hE; clear hu98
    obtain ⟨u99, hu99⟩ : ∃ x, tm.getD 99 undef = x := ⟨_, rfl⟩; rw [hu99] at hE; clear hu99
    obtain ⟨u100, hu100⟩ : ∃ x, tm.getD 100 undef = x := ⟨_, rfl⟩; rw [hu100] at hE; clear hu100
    rewrite [hE]
    clear hE
    refine doneP (by kernel_rfl) ?_
    have cf1 := fun (W : World) (hb : Below W7.heap.size W7 W) => cf0 W (hcl5.trans (hb.mono hcl5.size))
    have up1 := fun (W : World) (hb : Below W7.heap.size W7 W) => up0 W (hcl5.trans (hb.mono hcl5.size))
    have dn1 := fun (W : World) (hb : Below W7.heap.size W7 W) => dn0 W (hcl5.trans (hb.mono hcl5.size))
    clear hcl5
    go_simp
    go_wp2
    refine (wpIn_wide (n := 0)).1 ?_
    refine wpIn_region_C 100000 (fun _ => True) hmix ?_
    refine flowT_at (k := 46) (fun _ => false) (fun iz vz Wz => match iz with
    | 0 => vz = .int .i64 z
    | 1 => NV Wz vz z
    | 2 => vz = .int .i64 z
    | 3 => NV Wz vz z
    | 4 => vz = .bool true
    | 5 => vz = .bool true
    | 6 => vz = .agg #[.bool s, .slice A n c]
    | 7 => NV Wz vz va
    | 8 => vz = .agg #[.bool s, .slice A n c]
    | 9 => NV Wz vz va
    | 10 => vz = .bool true
    | 11 => vz = .bool true
    | 12 => vz = .bool true
    | 13 => vz = .agg #[.bool s, .slice A n c]
    | 14 => NV Wz vz (-va)
    | 15 => vz = .agg #[.bool s, .slice A n c]
    | 16 => NV Wz vz (-va)
    | 17 => vz = .bool true
    | 18 => vz = .bool true
    | 19 => vz = .bool true
    | 20 => vz = .slice A2 n2 c2
    | 21 => NV Wz vz S
    | 22 => vz = .slice A2 n2 c2
    | 23 => NV Wz vz S
    | 24 => vz = .bool true
    | 25 => vz = .bool true
    | 26 => vz = .bool true
    | 27 => vz = .slice A2 n2 c2
    | 28 => NV Wz vz Pm
    | 29 => vz = .slice A2 n2 c2
    | 30 => NV Wz vz Pm
    | 31 => vz = .bool true
    | 32 => vz = .bool true
    | 33 => vz = .bool true
    | 34 => vz = .agg #[.bool s, .slice A n c]
    | 35 => vz = .agg #[.bool s', .slice A' n' c']
    | 36 => NV Wz vz (va - vb)
    | 37 => vz = .agg #[.bool s, .slice A n c]
    | 38 => vz = .agg #[.bool s', .slice A' n' c']
    | 39 => NV Wz vz (va - vb)
    | 40 => vz = .bool true
    | 41 => vz = .bool true
    | 42 => vz = .bool true
    | 43 => vz = .bool true
    | 44 => vz = .bool true
    | 45 => vz = .bool true
    | _ => True) (fun W => Below W7.heap.size W7 W) (by kernel_rfl) (by kernel_rfl) (by kernel_rfl) (by kernel_rfl) (by kernel_rfl) (by kernel_rfl) (by kernel_rfl) (by kernel_rfl) (by kernel_rfl) (fun _ _ h hb => h.trans (hb.mono h.size)) ?stab ((Below.refl _ W7).drew) ?spec ?fin
    case stab =>
      intro iz vz Wz Wy h hb
      split at h <;> first | exact h | exact NV.below h hb | exact ISV.below h hb | trivial
    case spec =>
      refine all_lt_succ ?_ ?h45
      refine all_lt_succ ?_ ?h44
      refine all_lt_succ ?_ ?h43
      refine all_lt_succ ?_ ?h42
      refine all_lt_succ ?_ ?h41
      refine all_lt_succ ?_ ?h40
      refine all_lt_succ ?_ ?h39
      refine all_lt_succ ?_ ?h38
      refine all_lt_succ ?_ ?h37
      refine all_lt_succ ?_ ?h36
      refine all_lt_succ ?_ ?h35
      refine all_lt_succ ?_ ?h34
      refine all_lt_succ ?_ ?h33
      refine all_lt_succ ?_ ?h32
      refine all_lt_succ ?_ ?h31
      refine all_lt_succ ?_ ?h30
      refine all_lt_succ ?_ ?h29
      refine all_lt_succ ?_ ?h28
      refine all_lt_succ ?_ ?h27
      refine all_lt_succ ?_ ?h26
      refine all_lt_succ ?_ ?h25
      refine all_lt_succ ?_ ?h24
      refine all_lt_succ ?_ ?h23
      refine all_lt_succ ?_ ?h22
      refine all_lt_succ ?_ ?h21
      refine all_lt_succ ?_ ?h20
      refine all_lt_succ ?_ ?h19
      refine all_lt_succ ?_ ?h18
      refine all_lt_succ ?_ ?h17
      refine all_lt_succ ?_ ?h16
      refine all_lt_succ ?_ ?h15
      refine all_lt_succ ?_ ?h14
      refine all_lt_succ ?_ ?h13
      refine all_lt_succ ?_ ?h12
      refine all_lt_succ ?_ ?h11
      refine all_lt_succ ?_ ?h10
      refine all_lt_succ ?_ ?h9
      refine all_lt_succ ?_ ?h8
      refine all_lt_succ ?_ ?h7
      refine all_lt_succ ?_ ?h6
      refine all_lt_succ ?_ ?h5
      refine all_lt_succ ?_ ?h4
      refine all_lt_succ ?_ ?h3
      refine all_lt_succ ?_ ?h2
      refine all_lt_succ ?_ ?h1
      refine all_lt_succ ?_ ?h0
      exact fun i h _ => absurd h (Nat.not_lt_zero i)
      case h0 =>
        intro _ o hi b5 W5 hf K hK
        cases hi
        have k3 : b5.tmps[3]?.getD undef = .int .i64 z := (Array.getD_eq_getD_getElem? ..).symm.trans ((hf.at_.keep 3 (by kernel_rfl)).trans (by kernel_rfl))
        refine wpOpIn_step rfl (fun K' hK' => ?_)
        go_simp
        exact hK' _ _ (hK _ _ rfl (Below.refl _ _) (fun h => by cases h))
      case h1 =>
        intro _ o hi b5 W5 hf K hK
        cases hi
        have k102 : b5.tmps[102]?.getD undef = .int .i64 z := (Array.getD_eq_getD_getElem? ..).symm.trans (hf.at_.vals 0 _ 102 ⟨by decide, ⟨0, .data⟩, by simp, by kernel_rfl, rfl⟩ rfl rfl)
        have ct := of_v (W := W5) z hz
        refine wpOpIn_step rfl (fun K' hK' => ?_)
        go_simp
        refine CallsIn.mono (callsIn_wide.2 ct) ?_
        rintro e W' ⟨v, rfl, hv, hb⟩
        exact hK' _ _ (hK _ _ hv hb (fun h => by cases h))
      case h2 =>
        intro _ o hi b5 W5 hf K hK
        cases hi
        have k3 : b5.tmps[3]?.getD undef = .int .i64 z := (Array.getD_eq_getD_getElem? ..).symm.trans ((hf.at_.keep 3 (by kernel_rfl)).trans (by kernel_rfl))
        refine wpOpIn_step rfl (fun K' hK' => ?_)
        go_simp
        exact hK' _ _ (hK _ _ rfl (Below.refl _ _) (fun h => by cases h))
      case h3 =>
        intro _ o hi b5 W5 hf K hK
        cases hi
        have k104 : b5.tmps[104]?.getD undef = .int .i64 z := (Array.getD_eq_getD_getElem? ..).symm.trans (hf.at_.vals 2 _ 104 ⟨by decide, ⟨2, .data⟩, by simp, by kernel_rfl, rfl⟩ rfl rfl)
        have ct := r5of_v (W := W5) z hz
        refine wpOpIn_step rfl (fun K' hK' => ?_)
        go_simp
        refine CallsIn.mono (callsIn_wide.2 ct) ?_
        rintro e W' ⟨v, rfl, hv, hb⟩
        exact hK' _ _ (hK _ _ hv hb (fun h => by cases h))
      case h4 =>
        intro _ o hi b5 W5 hf K hK
        cases hi
        have v103 := hf.at_.vals 1 _ 103 ⟨by decide, ⟨1, .data⟩, by simp, by kernel_rfl, rfl⟩ rfl rfl; rw [Array.getD_eq_getD_getElem?] at v103
        have v105 := hf.at_.vals 3 _ 105 ⟨by decide, ⟨3, .data⟩, by simp, by kernel_rfl, rfl⟩ rfl rfl; rw [Array.getD_eq_getD_getElem?] at v105
        have ct := lawsame_t v103 v105 (show z = z from by grind)
        refine wpOpIn_step rfl (fun K' hK' => ?_)
        go_simp
        refine CallsIn.mono (callsIn_wide.2 ct) ?_
        rintro e W' ⟨rfl, hb⟩
        exact hK' _ _ (hK _ _ rfl hb (fun h => by cases h))
      case h5 =>
        intro _ o hi b5 W5 hf K hK
        cases hi
        have k106 : b5.tmps[106]?.getD undef = .bool true := (Array.getD_eq_getD_getElem? ..).symm.trans (hf.at_.vals 4 _ 106 ⟨by decide, ⟨4, .data⟩, by simp, by kernel_rfl, rfl⟩ rfl rfl)
        refine wpOpIn_step rfl (fun K' hK' => ?_)
        go_simp
        exact hK' _ _ (hK _ _ rfl (Below.refl _ _) (fun h => by cases h))
      case h6 =>
        intro _ o hi b5 W5 hf K hK
        cases hi
        have k107 : b5.tmps[107]?.getD undef = .bool true := (Array.getD_eq_getD_getElem? ..).symm.trans (hf.at_.vals 5 _ 107 ⟨by decide, ⟨5, .guard⟩, by simp, by kernel_rfl, rfl⟩ rfl rfl)
        have g107 := some_bool k107
        have k4 : b5.tmps[4]?.getD undef = .pointer (some ⟨w.heap.size, 0, none⟩) := (Array.getD_eq_getD_getElem? ..).symm.trans ((hf.at_.keep 4 (by kernel_rfl)).trans (by kernel_rfl))
        obtain ⟨⟨⟨q1, q2⟩, q3, q4⟩, ⟨⟨q5, q6⟩, q7, q8⟩, ⟨q9, q10⟩, q11, q12⟩ := cf1 W5 hf.at_.cls
        refine wpOpIn_step rfl (fun K' hK' => ?_)
        go_simp
        exact hK' _ _ (hK _ _ rfl (Below.refl _ _) (fun h => by cases h))
      case h7 =>
        intro _ o hi b5 W5 hf K hK
        cases hi
        have k107 : b5.tmps[107]?.getD undef = .bool true := (Array.getD_eq_getD_getElem? ..).symm.trans (hf.at_.vals 5 _ 107 ⟨by decide, ⟨5, .chain⟩, by simp, by kernel_rfl, rfl⟩ rfl rfl)
        have g107 := some_bool k107
        have k108 : b5.tmps[108]?.getD undef = .agg #[.bool s, .slice A n c] := (Array.getD_eq_getD_getElem? ..).symm.trans (hf.at_.vals 6 _ 108 ⟨by decide, ⟨6, .data⟩, by simp, by kernel_rfl, rfl⟩ rfl rfl)
        have ct := norm_v (UV.mono (ua W5 (up1 W5 hf.at_.cls)) (m' := 60) (by decide)) (by decide)
        refine wpOpIn_step rfl (fun K' hK' => ?_)
        go_simp
        refine CallsIn.mono (callsIn_wide.2 ct) ?_
        rintro e W' ⟨v, rfl, hv, hb⟩
        exact hK' _ _ (hK _ _ hv hb (fun h => by cases h))
      case h8 =>
        intro _ o hi b5 W5 hf K hK
        cases hi
        have k107 : b5.tmps[107]?.getD undef = .bool true := (Array.getD_eq_getD_getElem? ..).symm.trans (hf.at_.vals 5 _ 107 ⟨by decide, ⟨5, .guard⟩, by simp, by kernel_rfl, rfl⟩ rfl rfl)
        have g107 := some_bool k107
        have k4 : b5.tmps[4]?.getD undef = .pointer (some ⟨w.heap.size, 0, none⟩) := (Array.getD_eq_getD_getElem? ..).symm.trans ((hf.at_.keep 4 (by kernel_rfl)).trans (by kernel_rfl))
        obtain ⟨⟨⟨q1, q2⟩, q3, q4⟩, ⟨⟨q5, q6⟩, q7, q8⟩, ⟨q9, q10⟩, q11, q12⟩ := cf1 W5 hf.at_.cls
        refine wpOpIn_step rfl (fun K' hK' => ?_)
        go_simp
        exact hK' _ _ (hK _ _ rfl (Below.refl _ _) (fun h => by cases h))
      case h9 =>
        intro _ o hi b5 W5 hf K hK
        cases hi
        have k107 : b5.tmps[107]?.getD undef = .bool true := (Array.getD_eq_getD_getElem? ..).symm.trans (hf.at_.vals 5 _ 107 ⟨by decide, ⟨5, .guard⟩, by simp, by kernel_rfl, rfl⟩ rfl rfl)
        have g107 := some_bool k107
        have k110 : b5.tmps[110]?.getD undef = .agg #[.bool s, .slice A n c] := (Array.getD_eq_getD_getElem? ..).symm.trans (hf.at_.vals 8 _ 110 ⟨by decide, ⟨8, .data⟩, by simp, by kernel_rfl, rfl⟩ rfl rfl)
        have ct := r5norm_w (UV.mono (ua W5 (up1 W5 hf.at_.cls)) (m' := 60) (by decide)) (by decide)
        refine wpOpIn_step rfl (fun K' hK' => ?_)
        go_simp
        refine CallsIn.mono (callsIn_wide.2 ct) ?_
        rintro e W' ⟨v, rfl, hv, hb⟩
        exact hK' _ _ (hK _ _ hv hb (fun h => by cases h))
      case h10 =>
        intro _ o hi b5 W5 hf K hK
        cases hi
        have k107 : b5.tmps[107]?.getD undef = .bool true := (Array.getD_eq_getD_getElem? ..).symm.trans (hf.at_.vals 5 _ 107 ⟨by decide, ⟨5, .guard⟩, by simp, by kernel_rfl, rfl⟩ rfl rfl)
        have g107 := some_bool k107
        have v109 := hf.at_.vals 7 _ 109 ⟨by decide, ⟨7, .data⟩, by simp, by kernel_rfl, rfl⟩ rfl rfl; rw [Array.getD_eq_getD_getElem?] at v109
        have v111 := hf.at_.vals 9 _ 111 ⟨by decide, ⟨9, .data⟩, by simp, by kernel_rfl, rfl⟩ rfl rfl; rw [Array.getD_eq_getD_getElem?] at v111
        have ct := lawsame_t v109 v111 (show va = va from by grind)
        refine wpOpIn_step rfl (fun K' hK' => ?_)
        go_simp
        refine CallsIn.mono (callsIn_wide.2 ct) ?_
        rintro e W' ⟨rfl, hb⟩
        exact hK' _ _ (hK _ _ rfl hb (fun h => by cases h))
      case h11 =>
        intro _ o hi b5 W5 hf K hK
        cases hi
        have k107 : b5.tmps[107]?.getD undef = .bool true := (Array.getD_eq_getD_getElem? ..).symm.trans (hf.at_.vals 5 _ 107 ⟨by decide, ⟨5, .data⟩, by simp, by kernel_rfl, rfl⟩ rfl rfl)
        have k112 : b5.tmps[112]?.getD undef = .bool true := (Array.getD_eq_getD_getElem? ..).symm.trans (hf.at_.vals 10 _ 112 ⟨by decide, ⟨10, .data⟩, by simp, by kernel_rfl, rfl⟩ rfl rfl)
        refine wpOpIn_step rfl (fun K' hK' => ?_)
        go_simp
        exact hK' _ _ (hK _ _ rfl (Below.refl _ _) (fun h => by cases h))
      case h12 =>
        intro _ o hi b5 W5 hf K hK
        cases hi
        have k113 : b5.tmps[113]?.getD undef = .bool true := (Array.getD_eq_getD_getElem? ..).symm.trans (hf.at_.vals 11 _ 113 ⟨by decide, ⟨11, .data⟩, by simp, by kernel_rfl, rfl⟩ rfl rfl)
        refine wpOpIn_step rfl (fun K' hK' => ?_)
        go_simp
        exact hK' _ _ (hK _ _ rfl (Below.refl _ _) (fun h => by cases h))
      case h13 =>
        intro _ o hi b5 W5 hf K hK
        cases hi
        have k114 : b5.tmps[114]?.getD undef = .bool true := (Array.getD_eq_getD_getElem? ..).symm.trans (hf.at_.vals 12 _ 114 ⟨by decide, ⟨12, .guard⟩, by simp, by kernel_rfl, rfl⟩ rfl rfl)
        have g114 := some_bool k114
        have k4 : b5.tmps[4]?.getD undef = .pointer (some ⟨w.heap.size, 0, none⟩) := (Array.getD_eq_getD_getElem? ..).symm.trans ((hf.at_.keep 4 (by kernel_rfl)).trans (by kernel_rfl))
        obtain ⟨⟨⟨q1, q2⟩, q3, q4⟩, ⟨⟨q5, q6⟩, q7, q8⟩, ⟨q9, q10⟩, q11, q12⟩ := cf1 W5 hf.at_.cls
        refine wpOpIn_step rfl (fun K' hK' => ?_)
        go_simp
        exact hK' _ _ (hK _ _ rfl (Below.refl _ _) (fun h => by cases h))
      case h14 =>
        intro _ o hi b5 W5 hf K hK
        cases hi
        have k114 : b5.tmps[114]?.getD undef = .bool true := (Array.getD_eq_getD_getElem? ..).symm.trans (hf.at_.vals 12 _ 114 ⟨by decide, ⟨12, .chain⟩, by simp, by kernel_rfl, rfl⟩ rfl rfl)
        have g114 := some_bool k114
        have k115 : b5.tmps[115]?.getD undef = .agg #[.bool s, .slice A n c] := (Array.getD_eq_getD_getElem? ..).symm.trans (hf.at_.vals 13 _ 115 ⟨by decide, ⟨13, .data⟩, by simp, by kernel_rfl, rfl⟩ rfl rfl)
        have ct := neg_v (UV.mono (ua W5 (up1 W5 hf.at_.cls)) (m' := 60) (by decide)) (by decide)
        refine wpOpIn_step rfl (fun K' hK' => ?_)
        go_simp
        refine CallsIn.mono (callsIn_wide.2 ct) ?_
        rintro e W' ⟨v, rfl, hv, hb⟩
        exact hK' _ _ (hK _ _ hv hb (fun h => by cases h))
      case h15 =>
        intro _ o hi b5 W5 hf K hK
        cases hi
        have k114 : b5.tmps[114]?.getD undef = .bool true := (Array.getD_eq_getD_getElem? ..).symm.trans (hf.at_.vals 12 _ 114 ⟨by decide, ⟨12, .guard⟩, by simp, by kernel_rfl, rfl⟩ rfl rfl)
        have g114 := some_bool k114
        have k4 : b5.tmps[4]?.getD undef = .pointer (some ⟨w.heap.size, 0, none⟩) := (Array.getD_eq_getD_getElem? ..).symm.trans ((hf.at_.keep 4 (by kernel_rfl)).trans (by kernel_rfl))
        obtain ⟨⟨⟨q1, q2⟩, q3, q4⟩, ⟨⟨q5, q6⟩, q7, q8⟩, ⟨q9, q10⟩, q11, q12⟩ := cf1 W5 hf.at_.cls
        refine wpOpIn_step rfl (fun K' hK' => ?_)
        go_simp
        exact hK' _ _ (hK _ _ rfl (Below.refl _ _) (fun h => by cases h))
      case h16 =>
        intro _ o hi b5 W5 hf K hK
        cases hi
        have k114 : b5.tmps[114]?.getD undef = .bool true := (Array.getD_eq_getD_getElem? ..).symm.trans (hf.at_.vals 12 _ 114 ⟨by decide, ⟨12, .guard⟩, by simp, by kernel_rfl, rfl⟩ rfl rfl)
        have g114 := some_bool k114
        have k117 : b5.tmps[117]?.getD undef = .agg #[.bool s, .slice A n c] := (Array.getD_eq_getD_getElem? ..).symm.trans (hf.at_.vals 15 _ 117 ⟨by decide, ⟨15, .data⟩, by simp, by kernel_rfl, rfl⟩ rfl rfl)
        have ct := r5neg_v (UV.mono (ua W5 (up1 W5 hf.at_.cls)) (m' := 60) (by decide)) (by decide)
        refine wpOpIn_step rfl (fun K' hK' => ?_)
        go_simp
        refine CallsIn.mono (callsIn_wide.2 ct) ?_
        rintro e W' ⟨v, rfl, hv, hb⟩
        exact hK' _ _ (hK _ _ hv hb (fun h => by cases h))
      case h17 =>
        intro _ o hi b5 W5 hf K hK
        cases hi
        have k114 : b5.tmps[114]?.getD undef = .bool true := (Array.getD_eq_getD_getElem? ..).symm.trans (hf.at_.vals 12 _ 114 ⟨by decide, ⟨12, .guard⟩, by simp, by kernel_rfl, rfl⟩ rfl rfl)
        have g114 := some_bool k114
        have v116 := hf.at_.vals 14 _ 116 ⟨by decide, ⟨14, .data⟩, by simp, by kernel_rfl, rfl⟩ rfl rfl; rw [Array.getD_eq_getD_getElem?] at v116
        have v118 := hf.at_.vals 16 _ 118 ⟨by decide, ⟨16, .data⟩, by simp, by kernel_rfl, rfl⟩ rfl rfl; rw [Array.getD_eq_getD_getElem?] at v118
        have ct := lawsame_t v116 v118 (show (-va) = (-va) from by grind)
        refine wpOpIn_step rfl (fun K' hK' => ?_)
        go_simp
        refine CallsIn.mono (callsIn_wide.2 ct) ?_
        rintro e W' ⟨rfl, hb⟩
        exact hK' _ _ (hK _ _ rfl hb (fun h => by cases h))
      case h18 =>
        intro _ o hi b5 W5 hf K hK
        cases hi
        have k114 : b5.tmps[114]?.getD undef = .bool true := (Array.getD_eq_getD_getElem? ..).symm.trans (hf.at_.vals 12 _ 114 ⟨by decide, ⟨12, .data⟩, by simp, by kernel_rfl, rfl⟩ rfl rfl)
        have k119 : b5.tmps[119]?.getD undef = .bool true := (Array.getD_eq_getD_getElem? ..).symm.trans (hf.at_.vals 17 _ 119 ⟨by decide, ⟨17, .data⟩, by simp, by kernel_rfl, rfl⟩ rfl rfl)
        refine wpOpIn_step rfl (fun K' hK' => ?_)
        go_simp
        exact hK' _ _ (hK _ _ rfl (Below.refl _ _) (fun h => by cases h))
      case h19 =>
        intro _ o hi b5 W5 hf K hK
        cases hi
        have k120 : b5.tmps[120]?.getD undef = .bool true := (Array.getD_eq_getD_getElem? ..).symm.trans (hf.at_.vals 18 _ 120 ⟨by decide, ⟨18, .data⟩, by simp, by kernel_rfl, rfl⟩ rfl rfl)
        refine wpOpIn_step rfl (fun K' hK' => ?_)
        go_simp
        exact hK' _ _ (hK _ _ rfl (Below.refl _ _) (fun h => by cases h))
      case h20 =>
        intro _ o hi b5 W5 hf K hK
        cases hi
        have k121 : b5.tmps[121]?.getD undef = .bool true := (Array.getD_eq_getD_getElem? ..).symm.trans (hf.at_.vals 19 _ 121 ⟨by decide, ⟨19, .guard⟩, by simp, by kernel_rfl, rfl⟩ rfl rfl)
        have g121 := some_bool k121
        have k2 : b5.tmps[2]?.getD undef = .slice A2 n2 c2 := (Array.getD_eq_getD_getElem? ..).symm.trans ((hf.at_.keep 2 (by kernel_rfl)).trans (by kernel_rfl))
        refine wpOpIn_step rfl (fun K' hK' => ?_)
        go_simp
        exact hK' _ _ (hK _ _ rfl (Below.refl _ _) (fun h => by cases h))
      case h21 =>
        intro _ o hi b5 W5 hf K hK
        cases hi
        have k121 : b5.tmps[121]?.getD undef = .bool true := (Array.getD_eq_getD_getElem? ..).symm.trans (hf.at_.vals 19 _ 121 ⟨by decide, ⟨19, .chain⟩, by simp, by kernel_rfl, rfl⟩ rfl rfl)
        have g121 := some_bool k121
        have k122 : b5.tmps[122]?.getD undef = .slice A2 n2 c2 := (Array.getD_eq_getD_getElem? ..).symm.trans (hf.at_.vals 20 _ 122 ⟨by decide, ⟨20, .data⟩, by simp, by kernel_rfl, rfl⟩ rfl rfl)
        have ct := add_w (k := S) (lz W5 (up1 W5 hf.at_.cls)) (by decide) hks hS
        refine wpOpIn_step rfl (fun K' hK' => ?_)
        go_simp
        refine CallsIn.mono (callsIn_wide.2 ct) ?_
        rintro e W' ⟨v, rfl, hv, hb⟩
        exact hK' _ _ (hK _ _ hv hb (fun h => by cases h))
      case h22 =>
        intro _ o hi b5 W5 hf K hK
        cases hi
        have k121 : b5.tmps[121]?.getD undef = .bool true := (Array.getD_eq_getD_getElem? ..).symm.trans (hf.at_.vals 19 _ 121 ⟨by decide, ⟨19, .guard⟩, by simp, by kernel_rfl, rfl⟩ rfl rfl)
        have g121 := some_bool k121
        have k2 : b5.tmps[2]?.getD undef = .slice A2 n2 c2 := (Array.getD_eq_getD_getElem? ..).symm.trans ((hf.at_.keep 2 (by kernel_rfl)).trans (by kernel_rfl))
        refine wpOpIn_step rfl (fun K' hK' => ?_)
        go_simp
        exact hK' _ _ (hK _ _ rfl (Below.refl _ _) (fun h => by cases h))
      case h23 =>
        intro _ o hi b5 W5 hf K hK
        cases hi
        have k121 : b5.tmps[121]?.getD undef = .bool true := (Array.getD_eq_getD_getElem? ..).symm.trans (hf.at_.vals 19 _ 121 ⟨by decide, ⟨19, .guard⟩, by simp, by kernel_rfl, rfl⟩ rfl rfl)
        have g121 := some_bool k121
        have k124 : b5.tmps[124]?.getD undef = .slice A2 n2 c2 := (Array.getD_eq_getD_getElem? ..).symm.trans (hf.at_.vals 22 _ 124 ⟨by decide, ⟨22, .data⟩, by simp, by kernel_rfl, rfl⟩ rfl rfl)
        have ct := r5add_w (k := S) (lz W5 (up1 W5 hf.at_.cls)) (by decide) hks hS
        refine wpOpIn_step rfl (fun K' hK' => ?_)
        go_simp
        refine CallsIn.mono (callsIn_wide.2 ct) ?_
        rintro e W' ⟨v, rfl, hv, hb⟩
        exact hK' _ _ (hK _ _ hv hb (fun h => by cases h))
      case h24 =>
        intro _ o hi b5 W5 hf K hK
        cases hi
        have k121 : b5.tmps[121]?.getD undef = .bool true := (Array.getD_eq_getD_getElem? ..).symm.trans (hf.at_.vals 19 _ 121 ⟨by decide, ⟨19, .guard⟩, by simp, by kernel_rfl, rfl⟩ rfl rfl)
        have g121 := some_bool k121
        have v123 := hf.at_.vals 21 _ 123 ⟨by decide, ⟨21, .data⟩, by simp, by kernel_rfl, rfl⟩ rfl rfl; rw [Array.getD_eq_getD_getElem?] at v123
        have v125 := hf.at_.vals 23 _ 125 ⟨by decide, ⟨23, .data⟩, by simp, by kernel_rfl, rfl⟩ rfl rfl; rw [Array.getD_eq_getD_getElem?] at v125
        have ct := lawsame_t v123 v125 (show S = S from by grind)
        refine wpOpIn_step rfl (fun K' hK' => ?_)
        go_simp
        refine CallsIn.mono (callsIn_wide.2 ct) ?_
        rintro e W' ⟨rfl, hb⟩
        exact hK' _ _ (hK _ _ rfl hb (fun h => by cases h))
      case h25 =>
        intro _ o hi b5 W5 hf K hK
        cases hi
        have k121 : b5.tmps[121]?.getD undef = .bool true := (Array.getD_eq_getD_getElem? ..).symm.trans (hf.at_.vals 19 _ 121 ⟨by decide, ⟨19, .data⟩, by simp, by kernel_rfl, rfl⟩ rfl rfl)
        have k126 : b5.tmps[126]?.getD undef = .bool true := (Array.getD_eq_getD_getElem? ..).symm.trans (hf.at_.vals 24 _ 126 ⟨by decide, ⟨24, .data⟩, by simp, by kernel_rfl, rfl⟩ rfl rfl)
        refine wpOpIn_step rfl (fun K' hK' => ?_)
        go_simp
        exact hK' _ _ (hK _ _ rfl (Below.refl _ _) (fun h => by cases h))
      case h26 =>
        intro _ o hi b5 W5 hf K hK
        cases hi
        have k127 : b5.tmps[127]?.getD undef = .bool true := (Array.getD_eq_getD_getElem? ..).symm.trans (hf.at_.vals 25 _ 127 ⟨by decide, ⟨25, .data⟩, by simp, by kernel_rfl, rfl⟩ rfl rfl)
        refine wpOpIn_step rfl (fun K' hK' => ?_)
        go_simp
        exact hK' _ _ (hK _ _ rfl (Below.refl _ _) (fun h => by cases h))
      case h27 =>
        intro _ o hi b5 W5 hf K hK
        cases hi
        have k128 : b5.tmps[128]?.getD undef = .bool true := (Array.getD_eq_getD_getElem? ..).symm.trans (hf.at_.vals 26 _ 128 ⟨by decide, ⟨26, .guard⟩, by simp, by kernel_rfl, rfl⟩ rfl rfl)
        have g128 := some_bool k128
        have k2 : b5.tmps[2]?.getD undef = .slice A2 n2 c2 := (Array.getD_eq_getD_getElem? ..).symm.trans ((hf.at_.keep 2 (by kernel_rfl)).trans (by kernel_rfl))
        refine wpOpIn_step rfl (fun K' hK' => ?_)
        go_simp
        exact hK' _ _ (hK _ _ rfl (Below.refl _ _) (fun h => by cases h))
      case h28 =>
        intro _ o hi b5 W5 hf K hK
        cases hi
        have k128 : b5.tmps[128]?.getD undef = .bool true := (Array.getD_eq_getD_getElem? ..).symm.trans (hf.at_.vals 26 _ 128 ⟨by decide, ⟨26, .chain⟩, by simp, by kernel_rfl, rfl⟩ rfl rfl)
        have g128 := some_bool k128
        have k129 : b5.tmps[129]?.getD undef = .slice A2 n2 c2 := (Array.getD_eq_getD_getElem? ..).symm.trans (hf.at_.vals 27 _ 129 ⟨by decide, ⟨27, .data⟩, by simp, by kernel_rfl, rfl⟩ rfl rfl)
        have ct := mul_w (k := Pm) (lz W5 (up1 W5 hf.at_.cls)) hkm hP hks
        refine wpOpIn_step rfl (fun K' hK' => ?_)
        go_simp
        refine CallsIn.mono (callsIn_wide.2 ct) ?_
        rintro e W' ⟨v, rfl, hv, hb⟩
        exact hK' _ _ (hK _ _ hv hb (fun h => by cases h))
      case h29 =>
        intro _ o hi b5 W5 hf K hK
        cases hi
        have k128 : b5.tmps[128]?.getD undef = .bool true := (Array.getD_eq_getD_getElem? ..).symm.trans (hf.at_.vals 26 _ 128 ⟨by decide, ⟨26, .guard⟩, by simp, by kernel_rfl, rfl⟩ rfl rfl)
        have g128 := some_bool k128
        have k2 : b5.tmps[2]?.getD undef = .slice A2 n2 c2 := (Array.getD_eq_getD_getElem? ..).symm.trans ((hf.at_.keep 2 (by kernel_rfl)).trans (by kernel_rfl))
        refine wpOpIn_step rfl (fun K' hK' => ?_)
        go_simp
        exact hK' _ _ (hK _ _ rfl (Below.refl _ _) (fun h => by cases h))
      case h30 =>
        intro _ o hi b5 W5 hf K hK
        cases hi
        have k128 : b5.tmps[128]?.getD undef = .bool true := (Array.getD_eq_getD_getElem? ..).symm.trans (hf.at_.vals 26 _ 128 ⟨by decide, ⟨26, .guard⟩, by simp, by kernel_rfl, rfl⟩ rfl rfl)
        have g128 := some_bool k128
        have k131 : b5.tmps[131]?.getD undef = .slice A2 n2 c2 := (Array.getD_eq_getD_getElem? ..).symm.trans (hf.at_.vals 29 _ 131 ⟨by decide, ⟨29, .data⟩, by simp, by kernel_rfl, rfl⟩ rfl rfl)
        have ct := r5mul_w (k := Pm) (lz W5 (up1 W5 hf.at_.cls)) hkm hP hks
        refine wpOpIn_step rfl (fun K' hK' => ?_)
        go_simp
        refine CallsIn.mono (callsIn_wide.2 ct) ?_
        rintro e W' ⟨v, rfl, hv, hb⟩
        exact hK' _ _ (hK _ _ hv hb (fun h => by cases h))
      case h31 =>
        intro _ o hi b5 W5 hf K hK
        cases hi
        have k128 : b5.tmps[128]?.getD undef = .bool true := (Array.getD_eq_getD_getElem? ..).symm.trans (hf.at_.vals 26 _ 128 ⟨by decide, ⟨26, .guard⟩, by simp, by kernel_rfl, rfl⟩ rfl rfl)
        have g128 := some_bool k128
        have v130 := hf.at_.vals 28 _ 130 ⟨by decide, ⟨28, .data⟩, by simp, by kernel_rfl, rfl⟩ rfl rfl; rw [Array.getD_eq_getD_getElem?] at v130
        have v132 := hf.at_.vals 30 _ 132 ⟨by decide, ⟨30, .data⟩, by simp, by kernel_rfl, rfl⟩ rfl rfl; rw [Array.getD_eq_getD_getElem?] at v132
        have ct := lawsame_t v130 v132 (show Pm = Pm from by grind)
        refine wpOpIn_step rfl (fun K' hK' => ?_)
        go_simp
        refine CallsIn.mono (callsIn_wide.2 ct) ?_
        rintro e W' ⟨rfl, hb⟩
        exact hK' _ _ (hK _ _ rfl hb (fun h => by cases h))
      case h32 =>
        intro _ o hi b5 W5 hf K hK
        cases hi
        have k128 : b5.tmps[128]?.getD undef = .bool true := (Array.getD_eq_getD_getElem? ..).symm.trans (hf.at_.vals 26 _ 128 ⟨by decide, ⟨26, .data⟩, by simp, by kernel_rfl, rfl⟩ rfl rfl)
        have k133 : b5.tmps[133]?.getD undef = .bool true := (Array.getD_eq_getD_getElem? ..).symm.trans (hf.at_.vals 31 _ 133 ⟨by decide, ⟨31, .data⟩, by simp, by kernel_rfl, rfl⟩ rfl rfl)
        refine wpOpIn_step rfl (fun K' hK' => ?_)
        go_simp
        exact hK' _ _ (hK _ _ rfl (Below.refl _ _) (fun h => by cases h))
      case h33 =>
        intro _ o hi b5 W5 hf K hK
        cases hi
        have k134 : b5.tmps[134]?.getD undef = .bool true := (Array.getD_eq_getD_getElem? ..).symm.trans (hf.at_.vals 32 _ 134 ⟨by decide, ⟨32, .data⟩, by simp, by kernel_rfl, rfl⟩ rfl rfl)
        refine wpOpIn_step rfl (fun K' hK' => ?_)
        go_simp
        exact hK' _ _ (hK _ _ rfl (Below.refl _ _) (fun h => by cases h))
      case h34 =>
        intro _ o hi b5 W5 hf K hK
        cases hi
        have k135 : b5.tmps[135]?.getD undef = .bool true := (Array.getD_eq_getD_getElem? ..).symm.trans (hf.at_.vals 33 _ 135 ⟨by decide, ⟨33, .guard⟩, by simp, by kernel_rfl, rfl⟩ rfl rfl)
        have g135 := some_bool k135
        have k4 : b5.tmps[4]?.getD undef = .pointer (some ⟨w.heap.size, 0, none⟩) := (Array.getD_eq_getD_getElem? ..).symm.trans ((hf.at_.keep 4 (by kernel_rfl)).trans (by kernel_rfl))
        obtain ⟨⟨⟨q1, q2⟩, q3, q4⟩, ⟨⟨q5, q6⟩, q7, q8⟩, ⟨q9, q10⟩, q11, q12⟩ := cf1 W5 hf.at_.cls
        refine wpOpIn_step rfl (fun K' hK' => ?_)
        go_simp
        exact hK' _ _ (hK _ _ rfl (Below.refl _ _) (fun h => by cases h))
      case h35 =>
        intro _ o hi b5 W5 hf K hK
        cases hi
        have k135 : b5.tmps[135]?.getD undef = .bool true := (Array.getD_eq_getD_getElem? ..).symm.trans (hf.at_.vals 33 _ 135 ⟨by decide, ⟨33, .guard⟩, by simp, by kernel_rfl, rfl⟩ rfl rfl)
        have g135 := some_bool k135
        have k5 : b5.tmps[5]?.getD undef = .pointer (some ⟨w.heap.size + 1, 0, none⟩) := (Array.getD_eq_getD_getElem? ..).symm.trans ((hf.at_.keep 5 (by kernel_rfl)).trans (by kernel_rfl))
        obtain ⟨⟨⟨q1, q2⟩, q3, q4⟩, ⟨⟨q5, q6⟩, q7, q8⟩, ⟨q9, q10⟩, q11, q12⟩ := cf1 W5 hf.at_.cls
        refine wpOpIn_step rfl (fun K' hK' => ?_)
        go_simp
        exact hK' _ _ (hK _ _ rfl (Below.refl _ _) (fun h => by cases h))
      case h36 =>
        intro _ o hi b5 W5 hf K hK
        cases hi
        have k135 : b5.tmps[135]?.getD undef = .bool true := (Array.getD_eq_getD_getElem? ..).symm.trans (hf.at_.vals 33 _ 135 ⟨by decide, ⟨33, .chain⟩, by simp, by kernel_rfl, rfl⟩ rfl rfl)
        have g135 := some_bool k135
        have k136 : b5.tmps[136]?.getD undef = .agg #[.bool s, .slice A n c] := (Array.getD_eq_getD_getElem? ..).symm.trans (hf.at_.vals 34 _ 136 ⟨by decide, ⟨34, .data⟩, by simp, by kernel_rfl, rfl⟩ rfl rfl)
        have k137 : b5.tmps[137]?.getD undef = .agg #[.bool s', .slice A' n' c'] := (Array.getD_eq_getD_getElem? ..).symm.trans (hf.at_.vals 35 _ 137 ⟨by decide, ⟨35, .data⟩, by simp, by kernel_rfl, rfl⟩ rfl rfl)
        have ct := sub_v (UV.mono (ua W5 (up1 W5 hf.at_.cls)) (m' := 60) (by decide)) (UV.mono (ub W5 (up1 W5 hf.at_.cls)) (m' := 60) (by decide)) (by decide)
        refine wpOpIn_step rfl (fun K' hK' => ?_)
        go_simp
        refine CallsIn.mono (callsIn_wide.2 ct) ?_
        rintro e W' ⟨v, rfl, hv, hb⟩
        exact hK' _ _ (hK _ _ hv hb (fun h => by cases h))
      case h37 =>
        intro _ o hi b5 W5 hf K hK
        cases hi
        have k135 : b5.tmps[135]?.getD undef = .bool true := (Array.getD_eq_getD_getElem? ..).symm.trans (hf.at_.vals 33 _ 135 ⟨by decide, ⟨33, .guard⟩, by simp, by kernel_rfl, rfl⟩ rfl rfl)
        have g135 := some_bool k135
        have k4 : b5.tmps[4]?.getD undef = .pointer (some ⟨w.heap.size, 0, none⟩) := (Array.getD_eq_getD_getElem? ..).symm.trans ((hf.at_.keep 4 (by kernel_rfl)).trans (by kernel_rfl))
        obtain ⟨⟨⟨q1, q2⟩, q3, q4⟩, ⟨⟨q5, q6⟩, q7, q8⟩, ⟨q9, q10⟩, q11, q12⟩ := cf1 W5 hf.at_.cls
        refine wpOpIn_step rfl (fun K' hK' => ?_)
        go_simp
        exact hK' _ _ (hK _ _ rfl (Below.refl _ _) (fun h => by cases h))
      case h38 =>
        intro _ o hi b5 W5 hf K hK
        cases hi
        have k135 : b5.tmps[135]?.getD undef = .bool true := (Array.getD_eq_getD_getElem? ..).symm.trans (hf.at_.vals 33 _ 135 ⟨by decide, ⟨33, .guard⟩, by simp, by kernel_rfl, rfl⟩ rfl rfl)
        have g135 := some_bool k135
        have k5 : b5.tmps[5]?.getD undef = .pointer (some ⟨w.heap.size + 1, 0, none⟩) := (Array.getD_eq_getD_getElem? ..).symm.trans ((hf.at_.keep 5 (by kernel_rfl)).trans (by kernel_rfl))
        obtain ⟨⟨⟨q1, q2⟩, q3, q4⟩, ⟨⟨q5, q6⟩, q7, q8⟩, ⟨q9, q10⟩, q11, q12⟩ := cf1 W5 hf.at_.cls
        refine wpOpIn_step rfl (fun K' hK' => ?_)
        go_simp
        exact hK' _ _ (hK _ _ rfl (Below.refl _ _) (fun h => by cases h))
      case h39 =>
        intro _ o hi b5 W5 hf K hK
        cases hi
        have k135 : b5.tmps[135]?.getD undef = .bool true := (Array.getD_eq_getD_getElem? ..).symm.trans (hf.at_.vals 33 _ 135 ⟨by decide, ⟨33, .guard⟩, by simp, by kernel_rfl, rfl⟩ rfl rfl)
        have g135 := some_bool k135
        have k139 : b5.tmps[139]?.getD undef = .agg #[.bool s, .slice A n c] := (Array.getD_eq_getD_getElem? ..).symm.trans (hf.at_.vals 37 _ 139 ⟨by decide, ⟨37, .data⟩, by simp, by kernel_rfl, rfl⟩ rfl rfl)
        have k140 : b5.tmps[140]?.getD undef = .agg #[.bool s', .slice A' n' c'] := (Array.getD_eq_getD_getElem? ..).symm.trans (hf.at_.vals 38 _ 140 ⟨by decide, ⟨38, .data⟩, by simp, by kernel_rfl, rfl⟩ rfl rfl)
        have ct := r5sub_v (UV.mono (ua W5 (up1 W5 hf.at_.cls)) (m' := 60) (by decide)) (UV.mono (ub W5 (up1 W5 hf.at_.cls)) (m' := 60) (by decide)) (by decide)
        refine wpOpIn_step rfl (fun K' hK' => ?_)
        go_simp
        refine CallsIn.mono (callsIn_wide.2 ct) ?_
        rintro e W' ⟨v, rfl, hv, hb⟩
        exact hK' _ _ (hK _ _ hv hb (fun h => by cases h))
      case h40 =>
        intro _ o hi b5 W5 hf K hK
        cases hi
        have k135 : b5.tmps[135]?.getD undef = .bool true := (Array.getD_eq_getD_getElem? ..).symm.trans (hf.at_.vals 33 _ 135 ⟨by decide, ⟨33, .guard⟩, by simp, by kernel_rfl, rfl⟩ rfl rfl)
        have g135 := some_bool k135
        have v138 := hf.at_.vals 36 _ 138 ⟨by decide, ⟨36, .data⟩, by simp, by kernel_rfl, rfl⟩ rfl rfl; rw [Array.getD_eq_getD_getElem?] at v138
        have v141 := hf.at_.vals 39 _ 141 ⟨by decide, ⟨39, .data⟩, by simp, by kernel_rfl, rfl⟩ rfl rfl; rw [Array.getD_eq_getD_getElem?] at v141
        have ct := lawsame_t v138 v141 (show (va - vb) = (va - vb) from by grind)
        refine wpOpIn_step rfl (fun K' hK' => ?_)
        go_simp
        refine CallsIn.mono (callsIn_wide.2 ct) ?_
        rintro e W' ⟨rfl, hb⟩
        exact hK' _ _ (hK _ _ rfl hb (fun h => by cases h))
      case h41 =>
        intro _ o hi b5 W5 hf K hK
        cases hi
        have k135 : b5.tmps[135]?.getD undef = .bool true := (Array.getD_eq_getD_getElem? ..).symm.trans (hf.at_.vals 33 _ 135 ⟨by decide, ⟨33, .data⟩, by simp, by kernel_rfl, rfl⟩ rfl rfl)
        have k142 : b5.tmps[142]?.getD undef = .bool true := (Array.getD_eq_getD_getElem? ..).symm.trans (hf.at_.vals 40 _ 142 ⟨by decide, ⟨40, .data⟩, by simp, by kernel_rfl, rfl⟩ rfl rfl)
        refine wpOpIn_step rfl (fun K' hK' => ?_)
        go_simp
        exact hK' _ _ (hK _ _ rfl (Below.refl _ _) (fun h => by cases h))
      case h42 =>
        intro _ o hi b5 W5 hf K hK
        cases hi
        have k143 : b5.tmps[143]?.getD undef = .bool true := (Array.getD_eq_getD_getElem? ..).symm.trans (hf.at_.vals 41 _ 143 ⟨by decide, ⟨41, .data⟩, by simp, by kernel_rfl, rfl⟩ rfl rfl)
        refine wpOpIn_step rfl (fun K' hK' => ?_)
        go_simp
        exact hK' _ _ (hK _ _ rfl (Below.refl _ _) (fun h => by cases h))
      case h43 =>
        intro _ o hi b5 W5 hf K hK
        cases hi
        have k144 : b5.tmps[144]?.getD undef = .bool true := (Array.getD_eq_getD_getElem? ..).symm.trans (hf.at_.vals 42 _ 144 ⟨by decide, ⟨42, .chain⟩, by simp, by kernel_rfl, rfl⟩ rfl rfl)
        have g144 := some_bool k144
        have ct := wakes_any W5
        refine wpOpIn_step rfl (fun K' hK' => ?_)
        go_simp
        refine CallsIn.mono (callsIn_wide.2 ct) ?_
        rintro e W' ⟨rfl, hb⟩
        exact hK' _ _ (hK _ _ rfl hb (fun h => by cases h))
      case h44 =>
        intro _ o hi b5 W5 hf K hK
        cases hi
        have k144 : b5.tmps[144]?.getD undef = .bool true := (Array.getD_eq_getD_getElem? ..).symm.trans (hf.at_.vals 42 _ 144 ⟨by decide, ⟨42, .data⟩, by simp, by kernel_rfl, rfl⟩ rfl rfl)
        have k145 : b5.tmps[145]?.getD undef = .bool true := (Array.getD_eq_getD_getElem? ..).symm.trans (hf.at_.vals 43 _ 145 ⟨by decide, ⟨43, .data⟩, by simp, by kernel_rfl, rfl⟩ rfl rfl)
        refine wpOpIn_step rfl (fun K' hK' => ?_)
        go_simp
        exact hK' _ _ (hK _ _ rfl (Below.refl _ _) (fun h => by cases h))
      case h45 =>
        intro _ o hi b5 W5 hf K hK
        cases hi
        have k146 : b5.tmps[146]?.getD undef = .bool true := (Array.getD_eq_getD_getElem? ..).symm.trans (hf.at_.vals 44 _ 146 ⟨by decide, ⟨44, .data⟩, by simp, by kernel_rfl, rfl⟩ rfl rfl)
        refine wpOpIn_step rfl (fun K' hK' => ?_)
        go_simp
        exact hK' _ _ (hK _ _ rfl (Below.refl _ _) (fun h => by cases h))
    case fin =>
      intro b5 Wz hf
      have e8 : b5.tmps.getD 8 undef = .bool true := hf.at_.vals 45 _ 8 ⟨by decide, by decide⟩ rfl rfl
      have hE := frame_eq [102, 103, 104, 105, 106, 107, 108, 109, 110, 111, 112, 113, 114, 115, 116, 117, 118, 119, 120, 121, 122, 123, 124, 125, 126, 127, 128, 129, 130, 131, 132, 133, 134, 135, 136, 137, 138, 139, 140, 141, 142, 143, 144, 145, 146, 8] hf.at_.size (fun t ht5 => hf.at_.keep t (not_dst (by rw [show dstList _ _ = [102, 103, 104, 105, 106, 107, 108, 109, 110, 111, 112, 113, 114, 115, 116, 117, 118, 119, 120, 121, 122, 123, 124, 125, 126, 127, 128, 129, 130, 131, 132, 133, 134, 135, 136, 137, 138, 139, 140, 141, 142, 143, 144, 145, 146, 8] from by kernel_rfl]; exact ht5)))
      have hcl5 := hf.at_.cls
      obtain ⟨tm, df⟩ := b5
      obtain rfl : df = _ := hf.at_.defers
      clear hf
      simp only [List.foldl_cons, List.foldl_nil] at hE
      rw [show tm.getD 8 undef = _ from e8] at hE; clear e8
      obtain ⟨u102, hu102⟩ : ∃ x, tm.getD 102 undef = x := ⟨_, rfl⟩; rw [hu102] at hE; clear hu102
      obtain ⟨u103, hu103⟩ : ∃ x, tm.getD 103 undef = x := ⟨_, rfl⟩; rw [hu103] at hE; clear hu103
      obtain ⟨u104, hu104⟩ : ∃ x, tm.getD 104 undef = x := ⟨_, rfl⟩; rw [hu104] at hE; clear hu104
      obtain ⟨u105, hu105⟩ : ∃ x, tm.getD 105 undef = x := ⟨_, rfl⟩; rw [hu105] at hE; clear hu105
      obtain ⟨u106, hu106⟩ : ∃ x, tm.getD 106 undef = x := ⟨_, rfl⟩; rw [hu106] at hE; clear hu106
      obtain ⟨u107, hu107⟩ : ∃ x, tm.getD 107 undef = x := ⟨_, rfl⟩; rw [hu107] at hE; clear hu107
      obtain ⟨u108, hu108⟩ : ∃ x, tm.getD 108 undef = x := ⟨_, rfl⟩; rw [hu108] at hE; clear hu108
      obtain ⟨u109, hu109⟩ : ∃ x, tm.getD 109 undef = x := ⟨_, rfl⟩; rw [hu109] at hE; clear hu109
      obtain ⟨u110, hu110⟩ : ∃ x, tm.getD 110 undef = x := ⟨_, rfl⟩; rw [hu110] at hE; clear hu110
      obtain ⟨u111, hu111⟩ : ∃ x, tm.getD 111 undef = x := ⟨_, rfl⟩; rw [hu111] at hE; clear hu111
      obtain ⟨u112, hu112⟩ : ∃ x, tm.getD 112 undef = x := ⟨_, rfl⟩; rw [hu112] at hE; clear hu112
      obtain ⟨u113, hu113⟩ : ∃ x, tm.getD 113 undef = x := ⟨_, rfl⟩; rw [hu113] at hE; clear hu113
      obtain ⟨u114, hu114⟩ : ∃ x, tm.getD 114 undef = x := ⟨_, rfl⟩; rw [hu114] at hE; clear hu114
      obtain ⟨u115, hu115⟩ : ∃ x, tm.getD 115 undef = x := ⟨_, rfl⟩; rw [hu115] at hE; clear hu115
      obtain ⟨u116, hu116⟩ : ∃ x, tm.getD 116 undef = x := ⟨_, rfl⟩; rw [hu116] at hE; clear hu116
      obtain ⟨u117, hu117⟩ : ∃ x, tm.getD 117 undef = x := ⟨_, rfl⟩; rw [hu117] at hE; clear hu117
      obtain ⟨u118, hu118⟩ : ∃ x, tm.getD 118 undef = x := ⟨_, rfl⟩; rw [hu118] at hE; clear hu118
      obtain ⟨u119, hu119⟩ : ∃ x, tm.getD 119 undef = x := ⟨_, rfl⟩; rw [hu119] at hE; clear hu119
      obtain ⟨u120, hu120⟩ : ∃ x, tm.getD 120 undef = x := ⟨_, rfl⟩; rw [hu120] at hE; clear hu120
      obtain ⟨u121, hu121⟩ : ∃ x, tm.getD 121 undef = x := ⟨_, rfl⟩; rw [hu121] at hE; clear hu121
      obtain ⟨u122, hu122⟩ : ∃ x, tm.getD 122 undef = x := ⟨_, rfl⟩; rw [hu122] at hE; clear hu122
      obtain ⟨u123, hu123⟩ : ∃ x, tm.getD 123 undef = x := ⟨_, rfl⟩; rw [hu123] at hE; clear hu123
      obtain ⟨u124, hu124⟩ : ∃ x, tm.getD 124 undef = x := ⟨_, rfl⟩; rw [hu124] at hE; clear hu124
      obtain ⟨u125, hu125⟩ : ∃ x, tm.getD 125 undef = x := ⟨_, rfl⟩; rw [hu125] at hE; clear hu125
      obtain ⟨u126, hu126⟩ : ∃ x, tm.getD 126 undef = x := ⟨_, rfl⟩; rw [hu126] at hE; clear hu126
      obtain ⟨u127, hu127⟩ : ∃ x, tm.getD 127 undef = x := ⟨_, rfl⟩; rw [hu127] at hE; clear hu127
      obtain ⟨u128, hu128⟩ : ∃ x, tm.getD 128 undef = x := ⟨_, rfl⟩; rw [hu128] at hE; clear hu128
      obtain ⟨u129, hu129⟩ : ∃ x, tm.getD 129 undef = x := ⟨_, rfl⟩; rw [hu129] at hE; clear hu129
      obtain ⟨u130, hu130⟩ : ∃ x, tm.getD 130 undef = x := ⟨_, rfl⟩; rw [hu130] at hE; clear hu130
      obtain ⟨u131, hu131⟩ : ∃ x, tm.getD 131 undef = x := ⟨_, rfl⟩; rw [hu131] at hE; clear hu131
      obtain ⟨u132, hu132⟩ : ∃ x, tm.getD 132 undef = x := ⟨_, rfl⟩; rw [hu132] at hE; clear hu132
      obtain ⟨u133, hu133⟩ : ∃ x, tm.getD 133 undef = x := ⟨_, rfl⟩; rw [hu133] at hE; clear hu133
      obtain ⟨u134, hu134⟩ : ∃ x, tm.getD 134 undef = x := ⟨_, rfl⟩; rw [hu134] at hE; clear hu134
      obtain ⟨u135, hu135⟩ : ∃ x, tm.getD 135 undef = x := ⟨_, rfl⟩; rw [hu135] at hE; clear hu135
      obtain ⟨u136, hu136⟩ : ∃ x, tm.getD 136 undef = x := ⟨_, rfl⟩; rw [hu136] at hE; clear hu136
      obtain ⟨u137, hu137⟩ : ∃ x, tm.getD 137 undef = x := ⟨_, rfl⟩; rw [hu137] at hE; clear hu137
      obtain ⟨u138, hu138⟩ : ∃ x, tm.getD 138 undef = x := ⟨_, rfl⟩; rw [hu138] at hE; clear hu138
      obtain ⟨u139, hu139⟩ : ∃ x, tm.getD 139 undef = x := ⟨_, rfl⟩; rw [hu139] at hE; clear hu139
      obtain ⟨u140, hu140⟩ : ∃ x, tm.getD 140 undef = x := ⟨_, rfl⟩; rw [hu140] at hE; clear hu140
      obtain ⟨u141, hu141⟩ : ∃ x, tm.getD 141 undef = x := ⟨_, rfl⟩; rw [hu141] at hE; clear hu141
      obtain ⟨u142, hu142⟩ : ∃ x, tm.getD 142 undef = x := ⟨_, rfl⟩; rw [hu142] at hE; clear hu142
      obtain ⟨u143, hu143⟩ : ∃ x, tm.getD 143 undef = x := ⟨_, rfl⟩; rw [hu143] at hE; clear hu143
      obtain ⟨u144, hu144⟩ : ∃ x, tm.getD 144 undef = x := ⟨_, rfl⟩; rw [hu144] at hE; clear hu144
      obtain ⟨u145, hu145⟩ : ∃ x, tm.getD 145 undef = x := ⟨_, rfl⟩; rw [hu145] at hE; clear hu145
      obtain ⟨u146, hu146⟩ : ∃ x, tm.getD 146 undef = x := ⟨_, rfl⟩; rw [hu146] at hE; clear hu146
      rewrite [hE]
      clear hE
      refine doneP (by kernel_rfl) ?_
      have cf2 := fun (W : World) (hb : Below Wz.heap.size Wz W) => cf1 W (hcl5.trans (hb.mono hcl5.size))
      have up2 := fun (W : World) (hb : Below Wz.heap.size Wz W) => up1 W (hcl5.trans (hb.mono hcl5.size))
      have dn2 := fun (W : World) (hb : Below Wz.heap.size Wz W) => dn1 W (hcl5.trans (hb.mono hcl5.size))
      clear hcl5
      go_simp
      go_wp2
      go_ret
      have t1 := hB0.trans ((up2 Wz (Below.refl _ _)).mono hB0.size)
      exact ⟨rfl, t1⟩
end Go.Proofs.Wd
