/- The calculus of walks by facts: natural numbers and integers; The calculus of walks by facts: rationals; The calculus of walks by facts: rows of structs, their elements; loops that count; The calculus of walks by facts: a region of open order behind which a slot is set anew that it has read; The calculus of walks by facts: a region of open order that makes several boxes: they lie apart. -/
import Derived.Test.YtghgemeclgpibaaDoorMQN6
import Derived.Test.YtghgemeclgpibaaDoorMQN10
import Derived.Test.YtghgemeclgpibaaDoorMQN18
namespace Go.Proofs.Wd
open Go.RowKit Lb

def fNat (x : Nat) : UF := .mk' (fun v w => NatV w v x) fun _ _ _ ⟨A, n, c, l, e, h1, h2⟩ k => ⟨A, n, c, l, e, h1, h2.keepU k⟩
def fLV (m x : Nat) : UF := .mk' (fun v w => LV w m v x) fun _ _ _ ⟨A, n, c, l, e, h1, h2⟩ k => ⟨A, n, c, l, e, h1.keepU k, h2⟩
def fNV (k : Int) : UF := .mk' (fun v w => NV w v k) fun _ _ _ ⟨A, n, c, l, e, h1, h2⟩ k => ⟨A, n, c, l, e, h1, h2.keepU k⟩
def fUV (m : Nat) (k : Int) : UF := .mk' (fun v w => UV w m v k) fun _ _ _ ⟨s, A, n, c, l, e, h1, h2⟩ k => ⟨s, A, n, c, l, e, h1.keepU k, h2⟩
def fB (b : Bool) : UF := .eq (.bool b)
def fI (z : Int) : UF := .eq (.int .i64 z)

theorem obs_cons {F : Fence} {m : Nat} {P : Program} {w0 : World} {ops : Array Oper} {G : Nat → SF} {o : Oper} {l : List Oper} (h : GdOK F m P w0 ops G o) (k : Obs F m P w0 ops G l) : Obs F m P w0 ops G (o :: l) := ⟨h, k⟩
theorem obs_nil {F : Fence} {m : Nat} {P : Program} {w0 : World} {ops : Array Oper} {G : Nat → SF} : Obs F m P w0 ops G [] := trivial

/-- The cells from k on. -/
def CF.at (C : CF) (k : Nat) : CF := ⟨fun cs w => ∃ ds, C.p ds w ∧ cs = ds.drop k, fun _ _ _ ⟨ds, h1, h2⟩ hb => ⟨ds, C.st _ _ _ h1 hb, h2⟩⟩

section
variable {F : Fence} {m : Nat} {P : Program} {w0 : World} {ops : Array Oper} {G : Nat → SF} {d : Tmp} {ty : TypeId} {pos : String} {aft : Array Edge}
theorem ok_fld {x : Operand} {s : TypeId} {f : Nat} {C : CF} (k : Nat) (hk : fieldOff P s f = some k) (hx : ∀ v W, (fct G x).p v W → (SF.ptr C).p v W := by first | exact fun _ _ h => h | exact fun _ _ h => h.2) (hd : ∀ v W, (SF.ptr (C.at k)).p v W → (G d).p v W := by exact fun _ _ h => h) : GdOK F m P w0 ops G ⟨some d, .fieldAddr s x f, ty, pos, aft, none⟩ :=
  ok_field (C' := C.at k) k hk hx (fun cs _ h => ⟨cs, h, rfl⟩) hd
theorem ok_fldn {x : Operand} {s : TypeId} {f : Nat} {C : CF} (i k : Nat) (hk : fieldOff P s f = some k) (hx : ∀ v W, (fct G x).p v W → (SF.ptr (C.at i)).p v W := by exact fun _ _ h => h) (hd : ∀ v W, (SF.ptr (C.at (i + k))).p v W → (G d).p v W := by exact fun _ _ h => h) : GdOK F m P w0 ops G ⟨some d, .fieldAddr s x f, ty, pos, aft, none⟩ :=
  ok_field (C' := C.at (i + k)) k hk hx (fun cs _ ⟨ds, h1, h2⟩ => ⟨ds, h1, by rw [h2, List.drop_drop]⟩) hd
theorem ok_ld {x : Operand} {t : TypeId} {C : CF} {k : Nat} (hk : isPlain P t = true) (hx : ∀ v W, (fct G x).p v W → (SF.ptr (C.at k)).p v W := by exact fun _ _ h => h) (h : ∀ cs W, C.p cs W → ∃ u, cs[k]? = some u ∧ (G d).p u W) : GdOK F m P w0 ops G ⟨some d, .load t x, ty, pos, aft, none⟩ :=
  ok_load1 hk hx fun cs W ⟨ds, h1, h2⟩ => let ⟨u, h3, h4⟩ := h ds W h1; ⟨u, by rw [h2, List.getElem?_drop]; exact h3, h4⟩
theorem ok_ldA {x : Operand} {t : TypeId} {C : CF} {k : Nat} (z : Nat) (hk : aggSize P t = some z) (hx : ∀ v W, (fct G x).p v W → (SF.ptr (C.at k)).p v W := by exact fun _ _ h => h) (h : ∀ cs W, C.p cs W → k + z ≤ cs.length ∧ (G d).p (.agg ((cs.drop k).take z).toArray) W) : GdOK F m P w0 ops G ⟨some d, .load t x, ty, pos, aft, none⟩ :=
  ok_loadA z hk hx fun cs W ⟨ds, h1, h2⟩ => let ⟨h3, h4⟩ := h ds W h1; ⟨by rw [h2, List.length_drop]; omega, by rw [h2]; exact h4⟩
/-- A struct, loaded whole. -/
theorem ok_ldW {x : Operand} {t : TypeId} {f : UF} (z : Nat) (hk : aggSize P t = some z) (hx : ∀ v W, (fct G x).p v W → (SF.ptr (CU.agg f).cf).p v W := by first | exact fun _ _ h => h | exact fun _ _ h => h.2) (hz : ∀ cs : List Value, ∀ W, f.p (.agg cs.toArray) W → cs.length = z) (hd : ∀ v W, f.p v W → (G d).p v W := by exact fun _ _ h => h) : GdOK F m P w0 ops G ⟨some d, .load t x, ty, pos, aft, none⟩ :=
  ok_loadA z hk hx fun cs W h => ⟨by rw [hz cs W h]; exact Nat.le_refl _, by
    have h1 := hz cs W h
    rw [List.take_of_length_le (by omega)]
    exact hd _ _ h⟩
theorem ok_nilE {x : Operand} {a : Addr} (hx : ∀ v W, (fct G x).p v W → v = .pointer (some a)) (hd : ∀ W, (G d).p (.pointer (some a)) W := by exact fun _ => rfl) : GdOK F m P w0 ops G ⟨some d, .nilCheck x, ty, pos, aft, none⟩ :=
  ok_pure (fun _ e => by cases e) (fun _ e => by cases e) fun b W hb hh => by
    have e := hx _ _ (hh x (by simp [Op.operands]))
    exact ⟨.pointer (some a), by simp [execOp, e], hd W⟩
theorem ok_fldE {x : Operand} {s : TypeId} {f : Nat} {b o : Nat} (k : Nat) (hk : fieldOff P s f = some k) (hx : ∀ v W, (fct G x).p v W → v = .pointer (some ⟨b, o, none⟩)) (hd : ∀ W, (G d).p (.pointer (some ⟨b, o + k, none⟩)) W := by exact fun _ => rfl) : GdOK F m P w0 ops G ⟨some d, .fieldAddr s x f, ty, pos, aft, none⟩ :=
  ok_pure (fun _ e => by cases e) (fun _ e => by cases e) fun c W hb hh => by
    have e := hx _ _ (hh x (by simp [Op.operands]))
    refine ⟨.pointer (some ⟨b, o + k, none⟩), ?_, hd W⟩
    unfold fieldOff at hk
    split at hk <;> try cases hk
    rename_i fs hu
    split at hk <;> try cases hk
    rename_i f' hf
    split at hk <;> try cases hk
    rename_i i hi
    split at hk <;> try cases hk
    rename_i hz
    simp [execOp, Instr.fieldAt, run_underlying hu, hf, e, Instr.sureAddr, fieldPlace, sizeOf, typeInfo, hi, hz, Addr.add_lit]
/-- What is called yields this, as a Ret with another fact. -/
theorem Ret.to {W : World} {f g : SF} (h : ∀ v W, f.p v W → g.p v W) : ∀ e W', Ret W f e W' → Ret W g e W' := fun _ _ ⟨v, e, h1, h2⟩ => ⟨v, e, h _ _ h1, h2⟩
end

theorem agg_inj {xs ys : Array Value} (h : Value.agg xs = Value.agg ys) : xs = ys := by injection h
theorem uv_cells {cs : List Value} {W : World} {m : Nat} {k : Int} (h : (fUV m k).p (.agg cs.toArray) W) : ∃ s A n c, cs = [.bool s, .slice A n c] ∧ ∃ l, Rd W A n c l ∧ Lt l ∧ n ≤ m ∧ iv s l = k := by
  obtain ⟨s, A, n, c, l, e, h1⟩ := h
  have := congrArg Array.toList (agg_inj e)
  exact ⟨s, A, n, c, by simpa using this, l, h1⟩
theorem nv_cells {cs : List Value} {W : World} {k : Int} (h : (fNV k).p (.agg cs.toArray) W) : ∃ A n c, cs = [.bool (decide (k < 0)), .slice A n c] ∧ ∃ l, Is l k.natAbs ∧ Rd W A n c l := by
  obtain ⟨A, n, c, l, e, h1⟩ := h
  have := congrArg Array.toList (agg_inj e)
  exact ⟨A, n, c, by simpa using this, l, h1⟩
theorem uv_len (m : Nat) (k : Int) : ∀ cs : List Value, ∀ W, (fUV m k).p (.agg cs.toArray) W → cs.length = 2 := fun cs W h => by
  obtain ⟨s, A, n, c, rfl, _⟩ := uv_cells h
  rfl
theorem nv_len (k : Int) : ∀ cs : List Value, ∀ W, (fNV k).p (.agg cs.toArray) W → cs.length = 2 := fun cs W h => by
  obtain ⟨A, n, c, rfl, _⟩ := nv_cells h
  rfl
theorem nv_abs {k : Int} (cs : List Value) (W : World) (h : (CU.agg (fNV k)).p cs W) : ∃ u, cs[1]? = some u ∧ NatV W u k.natAbs := by
  obtain ⟨A, n, c, rfl, l, h1, h2⟩ := nv_cells h
  exact ⟨_, rfl, A, n, c, l, rfl, h1, h2⟩
theorem nv_neg {k : Int} (cs : List Value) (W : World) (h : (CU.agg (fNV k)).p cs W) : ∃ u, cs[0]? = some u ∧ u = .bool (decide (k < 0)) := by
  obtain ⟨A, n, c, rfl, l, h1, h2⟩ := nv_cells h
  exact ⟨_, rfl, rfl⟩
/-- A box of an integer is laid, is stored. -/
theorem uv_box {m : Nat} {k : Int} {v : Value} {W : World} (h : (fUV m k).p v W) : (CU.agg (fUV m k)).p v.cells.toList W ∧ v.cells.toList.all noLimb = true := by
  obtain ⟨s, A, n, c, l, rfl, h1⟩ := h
  exact ⟨⟨s, A, n, c, l, rfl, h1⟩, rfl⟩
theorem nv_store {k : Int} (v : Value) (W : World) (h : (fNV k).p v W) : ∃ vs : List Value, v = .agg vs.toArray ∧ vs.length = 2 ∧ (∀ u, u ∈ vs → u.oneCell' = true) ∧ vs.all noLimb = true ∧ (CU.agg (fNV k)).p vs W := by
  obtain ⟨A, n, c, l, rfl, h1⟩ := h
  exact ⟨[_, _], rfl, rfl, fun u hu => by simp at hu; rcases hu with rfl | rfl <;> rfl, rfl, A, n, c, l, rfl, h1⟩
theorem NV.nat {W : World} {v : Value} {k : Int} (h : NV W v k) : ∃ A n c, v = .agg #[.bool (decide (k < 0)), .slice A n c] ∧ NatV W (.slice A n c) k.natAbs := by
  obtain ⟨A, n, c, l, rfl, h1, h2⟩ := h
  exact ⟨A, n, c, rfl, A, n, c, l, rfl, h1, h2⟩

theorem bInt (s : Bool) (A : Option Addr) (n c : Nat) : Tryd.prog.built 41 [(0, .bool s), (1, .slice A n c)] = some #[.bool s, .slice A n c] := by kernel_rfl
theorem b_int {s : Bool} {u v : Value} {W : World} {m x : Nat} (hu : u = .bool s) (hv : NatV W v x) (hx : x < BB ^ m) : ∃ cells, Tryd.prog.built 41 [(0, u), (1, v)] = some cells ∧ UV W m (.agg cells) (if s then -(x : Int) else x) := by
  obtain ⟨A, n, c, l, rfl, h1, h2⟩ := hv
  subst hu
  refine ⟨_, bInt s A n c, s, A, n, c, l, rfl, h2, h1.lt, by rw [← h2.len]; exact h1.len hx, ?_⟩
  unfold iv
  rw [h1.val]
theorem s_int2 (s s' : Bool) (A A' : Option Addr) (n n' c c' : Nat) : sliceCells Tryd.prog 101 2 [(0, .agg #[.bool s, .slice A n c]), (1, .agg #[.bool s', .slice A' n' c'])] = some (41, #[.bool s, .slice A n c, .bool s', .slice A' n' c']) := by kernel_rfl
theorem sl_int2 {u v : Value} {W : World} {m : Nat} {k k' : Int} (hu : UV W m u k) (hv : UV W m v k') : ∃ e cs, sliceCells Tryd.prog 101 2 [(0, u), (1, v)] = some (e, cs) ∧ ISV (W.alloc (.cells cs e)) m (.slice (some ⟨W.heap.size, 0, none⟩) 2 2) [k, k'] := by
  obtain ⟨s, A, n, c, l, rfl, h1, h2, h3, rfl⟩ := hu
  obtain ⟨s', A', n', c', l', rfl, h1', h2', h3', rfl⟩ := hv
  exact ⟨_, _, s_int2 s s' A A' n n' c c', ISV.two ⟨s, A, n, c, l, rfl, h1, h2, h3, rfl⟩ ⟨s', A', n', c', l', rfl, h1', h2', h3', rfl⟩ _⟩
def fISV (m : Nat) (ks : List Int) : SF := ⟨fun v W => ISV W m v ks, fun _ _ _ h hb => h.below hb⟩
/-- The length of a number's slice. -/
def fLen (x : Nat) : SF := ⟨fun v _ => ∃ n : Nat, v = .int .i64 n ∧ (x = 0 ↔ n = 0), fun _ _ _ h _ => h⟩
section
variable {F : Fence} {m : Nat} {P : Program} {w0 : World} {ops : Array Oper} {G : Nat → SF} {d : Tmp} {ty : TypeId} {pos : String} {aft : Array Edge}
/-- The length of a slice. -/
theorem ok_len {x : Operand} {t : TypeId} (ht : P.underlying t = some (.slice (P.elem t))) (h : ∀ v W, (fct G x).p v W → ∃ A n c, v = .slice A n c ∧ (G d).p (.int .i64 (n : Nat)) W) : GdOK F m P w0 ops G ⟨some d, .call ⟨.builtin .len, #[x], #[t]⟩, ty, pos, aft, none⟩ := by
  intro b W K Q hb hr hK
  obtain ⟨A, n, c, e, hd⟩ := h _ _ (fct_holds hr (x := x) (by simp [Op.operands, Call.operands]))
  refine ⟨fun f hf => (by
    unfold Oper.about at hf
    simp [resolve, go_sem] at hf), ?_⟩
  rw [Oper.semAt_eq _ _ _ (fun _ e => by cases e)]
  have : (execOp b.eval ⟨some d, .call ⟨.builtin .len, #[x], #[t]⟩, ty, pos, aft, none⟩).run P W = .ok (.value (.int .i64 (n : Nat))) W := by
    simp [execOp, resolve, invoke, builtin, e, run_len_slice _ _ _ _ _ _ ht, goInt]
  rw [this]
  exact hK _ _ (fun d' e' => by cases e'; exact hd) (Below.refl _ _)
theorem ok_lenN {x : Operand} {t : TypeId} {k : Nat} (ht : P.underlying t = some (.slice (P.elem t))) (hx : ∀ v W, (fct G x).p v W → NatV W v k) (hd : ∀ v W, (fLen k).p v W → (G d).p v W := by exact fun _ _ h => h) : GdOK F m P w0 ops G ⟨some d, .call ⟨.builtin .len, #[x], #[t]⟩, ty, pos, aft, none⟩ :=
  ok_len ht fun v W h => by
    obtain ⟨A, n, c, l, e, h1, h2⟩ := hx v W h
    exact ⟨A, n, c, e, hd _ _ ⟨n, rfl, by rw [← h2.len]; exact h1.zero_iff⟩⟩
theorem ok_bin' {op : BinOp} {t : TypeId} {x y : Operand} {t' : TypeId} (h : ∀ u v W, (fct G x).p u W → (fct G y).p v W → ∃ r, (∀ W, (eqGuard op t x y u v).run P W = .ok () W) ∧ (∀ W, (binOp op t u v).run P W = .ok r W) ∧ (G d).p r W) : GdOK F m P w0 ops G ⟨some d, .binOp op t x y t', ty, pos, aft, none⟩ :=
  ok_pure (fun _ e => by cases e) (fun _ e => by cases e) fun b W hb hh => by
    obtain ⟨r, h1, h2, h3⟩ := h _ _ W (hh x (by simp [Op.operands])) (hh y (by simp [Op.operands]))
    exact ⟨r, by simp [execOp, h1, h2], h3⟩
/-- A number's length against nought. -/
theorem ok_gtr0 {t : TypeId} {x : Operand} {t' : TypeId} {k : Nat} {b : Bool} (hb : b = decide (0 < k)) (hx : ∀ v W, (fct G x).p v W → (fLen k).p v W := by exact fun _ _ h => h) (hd : ∀ W, (G d).p (.bool b) W := by exact fun _ => rfl) : GdOK F m P w0 ops G ⟨some d, .binOp .gtr t x (.const (.int .i64 0)) t', ty, pos, aft, none⟩ :=
  ok_bin' fun u v W hu hv => by
    obtain ⟨n, rfl, h1⟩ := hx u W hu
    obtain rfl : v = .int .i64 0 := hv
    refine ⟨.bool b, fun _ => rfl, fun _ => ?_, hd W⟩
    have h2 : decide (0 < n) = b := by
      rw [hb]
      by_cases e : k = 0
      · have := h1.1 e
        subst this
        rw [e]
      · have : n ≠ 0 := fun h => e (h1.2 h)
        rw [decide_eq_true (by omega), decide_eq_true (by omega)]
    simp [binOp, Op.intCmp, h2]
theorem ok_eql0 {t : TypeId} {x : Operand} {t' : TypeId} {k : Nat} {b : Bool} (hb : b = decide (k = 0)) (hx : ∀ v W, (fct G x).p v W → (fLen k).p v W := by exact fun _ _ h => h) (hd : ∀ W, (G d).p (.bool b) W := by exact fun _ => rfl) : GdOK F m P w0 ops G ⟨some d, .binOp .eql t x (.const (.int .i64 0)) t', ty, pos, aft, none⟩ :=
  ok_bin' fun u v W hu hv => by
    obtain ⟨n, rfl, h1⟩ := hx u W hu
    obtain rfl : v = .int .i64 0 := hv
    refine ⟨.bool b, fun _ => rfl, fun _ => ?_, hd W⟩
    have h2 : ((n : Int) == 0) = b := by
      rw [hb, Bool.eq_iff_iff]
      simp only [beq_iff_eq, decide_eq_true_eq]
      omega
    simp only [binOp, Op.intCmp]
    rw [h2]
    rfl
end
end Go.Proofs.Wd


namespace Go.Proofs.Wd
open Go.RowKit Lb

/-- A rational of these parts, of at most m limbs each. -/
def QVp (m : Nat) (k : Int) (d : Nat) (v : Value) (w : World) : Prop := ∃ b s t, v = .agg #[b, s, t] ∧ UV w m (.agg #[b, s]) k ∧ LV w m t d
/-- A rational as it is told. -/
def QNp (q : Rat) (v : Value) (w : World) : Prop := ∃ b s t, v = .agg #[b, s, t] ∧ NV w (.agg #[b, s]) q.num ∧ NatV w t q.den
/-- A rational under way: its Num is told, its Den not yet. -/
def QMp (m : Nat) (k : Int) (d : Nat) (v : Value) (w : World) : Prop := ∃ b s t, v = .agg #[b, s, t] ∧ NV w (.agg #[b, s]) k ∧ LV w m t d
/-- The same, Abs set anew. -/
def QAp (m : Nat) (sg : Bool) (x : Nat) (d : Nat) (v : Value) (w : World) : Prop := ∃ s t, v = .agg #[.bool sg, s, t] ∧ NatV w s x ∧ LV w m t d
def fQV (m : Nat) (k : Int) (d : Nat) : UF := .mk' (QVp m k d) fun _ _ _ ⟨b, s, t, e, h1, h2⟩ u => ⟨b, s, t, e, (fUV m k).us _ _ _ h1 u, (fLV m d).us _ _ _ h2 u⟩
def fQN (q : Rat) : UF := .mk' (QNp q) fun _ _ _ ⟨b, s, t, e, h1, h2⟩ u => ⟨b, s, t, e, (fNV q.num).us _ _ _ h1 u, (fNat q.den).us _ _ _ h2 u⟩
def fQM (m : Nat) (k : Int) (d : Nat) : UF := .mk' (QMp m k d) fun _ _ _ ⟨b, s, t, e, h1, h2⟩ u => ⟨b, s, t, e, (fNV k).us _ _ _ h1 u, (fLV m d).us _ _ _ h2 u⟩
def fQA (m : Nat) (sg : Bool) (x d : Nat) : UF := .mk' (QAp m sg x d) fun _ _ _ ⟨s, t, e, h1, h2⟩ u => ⟨s, t, e, (fNat x).us _ _ _ h1 u, (fLV m d).us _ _ _ h2 u⟩

theorem cells3 {cs : List Value} {b s t : Value} (h : Value.agg cs.toArray = .agg #[b, s, t]) : cs = [b, s, t] := by
  have := congrArg Array.toList (agg_inj h)
  simpa using this
theorem qv_len (m : Nat) (k : Int) (d : Nat) : ∀ cs : List Value, ∀ W, (fQV m k d).p (.agg cs.toArray) W → cs.length = 3 := fun cs W ⟨b, s, t, e, _⟩ => by rw [cells3 e]; rfl
theorem qn_len (q : Rat) : ∀ cs : List Value, ∀ W, (fQN q).p (.agg cs.toArray) W → cs.length = 3 := fun cs W ⟨b, s, t, e, _⟩ => by rw [cells3 e]; rfl
/-- Parts of boxes. -/
theorem qv_num {m : Nat} {k : Int} {d : Nat} (cs : List Value) (W : World) (h : (CU.agg (fQV m k d)).p cs W) : 0 + 2 ≤ cs.length ∧ UV W m (.agg ((cs.drop 0).take 2).toArray) k := by
  obtain ⟨b, s, t, e, h1, _⟩ := h
  rw [cells3 e]
  exact ⟨by simp, h1⟩
theorem qv_den {m : Nat} {k : Int} {d : Nat} (cs : List Value) (W : World) (h : (CU.agg (fQV m k d)).p cs W) : ∃ u, cs[2]? = some u ∧ LV W m u d := by
  obtain ⟨b, s, t, e, _, h1⟩ := h
  rw [cells3 e]
  exact ⟨t, rfl, h1⟩
theorem qv_neg {m : Nat} {k : Int} {d : Nat} (cs : List Value) (W : World) (h : (CU.agg (fQV m k d)).p cs W) : ∃ u, cs[0]? = some u ∧ ∃ s : Bool, u = .bool s := by
  obtain ⟨b, s, t, e, ⟨s', A, n, c, l, e', _⟩, _⟩ := h
  rw [cells3 e]
  have := congrArg Array.toList (agg_inj e')
  exact ⟨b, rfl, s', by simp at this; exact this.1⟩
theorem qn_num {q : Rat} (cs : List Value) (W : World) (h : (CU.agg (fQN q)).p cs W) : 0 + 2 ≤ cs.length ∧ NV W (.agg ((cs.drop 0).take 2).toArray) q.num := by
  obtain ⟨b, s, t, e, h1, _⟩ := h
  rw [cells3 e]
  exact ⟨by simp, h1⟩
theorem qn_den {q : Rat} (cs : List Value) (W : World) (h : (CU.agg (fQN q)).p cs W) : ∃ u, cs[2]? = some u ∧ NatV W u q.den := by
  obtain ⟨b, s, t, e, _, h1⟩ := h
  rw [cells3 e]
  exact ⟨t, rfl, h1⟩
theorem qn_abs {q : Rat} (cs : List Value) (W : World) (h : (CU.agg (fQN q)).p cs W) : ∃ u, cs[1]? = some u ∧ NatV W u q.num.natAbs := by
  obtain ⟨b, s, t, e, h1, _⟩ := h
  rw [cells3 e]
  exact nv_abs [b, s] W h1
theorem qn_neg {q : Rat} (cs : List Value) (W : World) (h : (CU.agg (fQN q)).p cs W) : ∃ u, cs[0]? = some u ∧ u = .bool (decide (q.num < 0)) := by
  obtain ⟨b, s, t, e, h1, _⟩ := h
  rw [cells3 e]
  exact nv_neg [b, s] W h1
theorem qn_whole {q : Rat} (cs : List Value) (W : World) (h : (CU.agg (fQN q)).p cs W) : 0 + 3 ≤ cs.length ∧ QNp q (.agg ((cs.drop 0).take 3).toArray) W := by
  have h1 := qn_len q cs W h
  exact ⟨by omega, by rw [List.drop_zero, List.take_of_length_le (by omega)]; exact h⟩
theorem qm_abs {m : Nat} {k : Int} {d : Nat} (cs : List Value) (W : World) (h : (CU.agg (fQM m k d)).p cs W) : ∃ u, cs[1]? = some u ∧ NatV W u k.natAbs := by
  obtain ⟨b, s, t, e, h1, _⟩ := h
  rw [cells3 e]
  exact nv_abs [b, s] W h1
theorem qm_den {m : Nat} {k : Int} {d : Nat} (cs : List Value) (W : World) (h : (CU.agg (fQM m k d)).p cs W) : ∃ u, cs[2]? = some u ∧ LV W m u d := by
  obtain ⟨b, s, t, e, _, h1⟩ := h
  rw [cells3 e]
  exact ⟨t, rfl, h1⟩
theorem LV.form {W : World} {m : Nat} {v : Value} {x : Nat} (h : LV W m v x) : ∃ A n c, v = .slice A n c := by
  obtain ⟨A, n, c, l, e, _⟩ := h
  exact ⟨A, n, c, e⟩
theorem NatV.form {W : World} {v : Value} {x : Nat} (h : NatV W v x) : ∃ A n c, v = .slice A n c := by
  obtain ⟨A, n, c, l, e, _⟩ := h
  exact ⟨A, n, c, e⟩
theorem UV.form {W : World} {m : Nat} {b s : Value} {k : Int} (h : UV W m (.agg #[b, s]) k) : ∃ sg A n c, b = .bool sg ∧ s = .slice A n c := by
  obtain ⟨s', A, n, c, l, e, _⟩ := h
  have := congrArg Array.toList (agg_inj e)
  simp at this
  exact ⟨s', A, n, c, this.1, this.2⟩
theorem NV.form {W : World} {b s : Value} {k : Int} (h : NV W (.agg #[b, s]) k) : ∃ A n c, b = .bool (decide (k < 0)) ∧ s = .slice A n c := by
  obtain ⟨A, n, c, l, e, _⟩ := h
  have := congrArg Array.toList (agg_inj e)
  simp at this
  exact ⟨A, n, c, this.1, this.2⟩
/-- Whole rationals: their cells are single, none a limb. -/
theorem qv_form {m : Nat} {k : Int} {d : Nat} {v : Value} {W : World} (h : (fQV m k d).p v W) : ∃ sg A n c A' n' c', v = .agg #[.bool sg, .slice A n c, .slice A' n' c'] := by
  obtain ⟨b, s, t, rfl, h1, h2⟩ := h
  obtain ⟨sg, A, n, c, rfl, rfl⟩ := h1.form
  obtain ⟨A', n', c', rfl⟩ := h2.form
  exact ⟨_, _, _, _, _, _, _, rfl⟩
theorem qn_form {q : Rat} {v : Value} {W : World} (h : (fQN q).p v W) : ∃ A n c A' n' c', v = .agg #[.bool (decide (q.num < 0)), .slice A n c, .slice A' n' c'] := by
  obtain ⟨b, s, t, rfl, h1, h2⟩ := h
  obtain ⟨A, n, c, rfl, rfl⟩ := h1.form
  obtain ⟨A', n', c', rfl⟩ := h2.form
  exact ⟨_, _, _, _, _, _, rfl⟩
theorem qv_box {m : Nat} {k : Int} {d : Nat} {v : Value} {W : World} (h : (fQV m k d).p v W) : (CU.agg (fQV m k d)).p v.cells.toList W ∧ v.cells.toList.all noLimb = true := by
  obtain ⟨sg, A, n, c, A', n', c', rfl⟩ := qv_form h
  exact ⟨h, rfl⟩
theorem qn_box {q : Rat} {v : Value} {W : World} (h : (fQN q).p v W) : (CU.agg (fQN q)).p v.cells.toList W ∧ v.cells.toList.all noLimb = true := by
  obtain ⟨A, n, c, A', n', c', rfl⟩ := qn_form h
  exact ⟨h, rfl⟩
theorem three_one {sg : Bool} {A A' : Option Addr} {n c n' c' : Nat} (u : Value) (hu : u ∈ [Value.bool sg, .slice A n c, .slice A' n' c']) : u.oneCell' = true := by
  simp at hu
  rcases hu with rfl | rfl | rfl <;> rfl
theorem qn_store {q : Rat} (v : Value) (W : World) (h : (fQN q).p v W) : ∃ vs : List Value, v = .agg vs.toArray ∧ vs.length = 3 ∧ (∀ u, u ∈ vs → u.oneCell' = true) ∧ vs.all noLimb = true ∧ (CU.agg (fQN q)).p vs W := by
  obtain ⟨A, n, c, A', n', c', rfl⟩ := qn_form h
  exact ⟨[_, _, _], rfl, rfl, three_one, rfl, h⟩
theorem qv_store {m : Nat} {k : Int} {d : Nat} (v : Value) (W : World) (h : (fQV m k d).p v W) : ∃ vs : List Value, v = .agg vs.toArray ∧ vs.length = 3 ∧ (∀ u, u ∈ vs → u.oneCell' = true) ∧ vs.all noLimb = true ∧ (CU.agg (fQV m k d)).p vs W := by
  obtain ⟨sg, A, n, c, A', n', c', rfl⟩ := qv_form h
  exact ⟨[_, _, _], rfl, rfl, three_one, rfl, h⟩
/-- What is told is within bounds. -/
theorem qn_qv {q : Rat} {m : Nat} {v : Value} {W : World} (h : QNp q v W) (hq : QB q m) : QVp m q.num q.den v W := by
  obtain ⟨b, s, t, e, h1, h2⟩ := h
  exact ⟨b, s, t, e, h1.uv' hq.1, h2.lv hq.2⟩
theorem qv_mono {m m' : Nat} {k : Int} {d : Nat} {v : Value} {W : World} (h : QVp m k d v W) (hm : m ≤ m') : QVp m' k d v W := by
  obtain ⟨b, s, t, e, h1, h2⟩ := h
  exact ⟨b, s, t, e, h1.mono hm, h2.mono hm⟩
/-- A rational made of its parts. -/
theorem bRat (s : Bool) (A A' : Option Addr) (n n' c c' : Nat) : Tryd.prog.built 43 [(0, .agg #[.bool s, .slice A n c]), (1, .slice A' n' c')] = some #[.bool s, .slice A n c, .slice A' n' c'] := by kernel_rfl
theorem b_ratN {u v : Value} {W : World} {q : Rat} (hu : NV W u q.num) (hv : NatV W v q.den) : ∃ cells, Tryd.prog.built 43 [(0, u), (1, v)] = some cells ∧ QNp q (.agg cells) W := by
  obtain ⟨A, n, c, rfl, h1⟩ := hu.nat
  obtain ⟨A', n', c', rfl⟩ := hv.form
  exact ⟨_, bRat _ _ _ _ _ _ _, _, _, _, rfl, hu, hv⟩
theorem b_ratV {u v : Value} {W : World} {m : Nat} {k : Int} {d : Nat} (hu : UV W m u k) (hv : LV W m v d) : ∃ cells, Tryd.prog.built 43 [(0, u), (1, v)] = some cells ∧ QVp m k d (.agg cells) W := by
  obtain ⟨s, A, n, c, l, rfl, h1⟩ := id hu
  obtain ⟨A', n', c', rfl⟩ := hv.form
  exact ⟨_, bRat _ _ _ _ _ _ _, _, _, _, rfl, hu, hv⟩
theorem bNat1 : sliceCells Tryd.prog 23 1 [(0, .int .u32 1)] = some (49, #[.int .u32 1]) := by kernel_rfl
/-- The number 1, as a row of one limb. -/
theorem sl_one {u : Value} {W : World} (hu : u = .int .u32 1) : ∃ e cs, sliceCells Tryd.prog 23 1 [(0, u)] = some (e, cs) ∧ NatV (W.alloc (.cells cs e)) (.slice (some ⟨W.heap.size, 0, none⟩) 1 1) 1 := by
  subst hu
  refine ⟨_, _, bNat1, _, 1, 1, [1], rfl, ⟨fun y hy => by simp at hy; subst hy; decide, fun hn => by simp, ?_⟩, Rd.new W [1] _ _ (by simp [u32s]) (by simp)⟩
  show sm (lm [1]) 1 = 1
  simp [sm, lm]
/-- A value of an integer's type, its sign said outright. -/
theorem bInt1 (A : Option Addr) (n c : Nat) : Tryd.prog.built 41 [(1, .slice A n c)] = some #[.bool false, .slice A n c] := by kernel_rfl
theorem b_whole {v : Value} {W : World} {x : Nat} (hv : NatV W v x) : ∃ cells, Tryd.prog.built 41 [(1, v)] = some cells ∧ NV W (.agg cells) x := by
  obtain ⟨A, n, c, l, rfl, h1, h2⟩ := hv
  refine ⟨_, bInt1 _ _ _, A, n, c, l, by rw [decide_eq_false (by omega)], by rw [Int.natAbs_natCast]; exact h1, h2⟩
theorem bNum (s : Bool) (A A' : Option Addr) (n n' c c' : Nat) : Tryd.prog.built 78 [(0, .agg #[.bool s, .slice A n c, .slice A' n' c'])] = some #[.bool s, .slice A n c, .slice A' n' c'] := by kernel_rfl
theorem b_numV {v : Value} {W : World} {m : Nat} {k : Int} {d : Nat} (hv : QVp m k d v W) : ∃ cells, Tryd.prog.built 78 [(0, v)] = some cells ∧ QVp m k d (.agg cells) W := by
  obtain ⟨sg, A, n, c, A', n', c', rfl⟩ := qv_form hv
  exact ⟨_, bNum _ _ _ _ _ _ _, hv⟩
/-- Num and Den as they are told, whatever they have in common. -/
def QKp (k : Int) (d : Nat) (v : Value) (w : World) : Prop := ∃ b s t, v = .agg #[b, s, t] ∧ NV w (.agg #[b, s]) k ∧ NatV w t d
def fQK (k : Int) (d : Nat) : UF := .mk' (QKp k d) fun _ _ _ ⟨b, s, t, e, h1, h2⟩ u => ⟨b, s, t, e, (fNV k).us _ _ _ h1 u, (fNat d).us _ _ _ h2 u⟩
theorem qk_qv {k : Int} {d m : Nat} {v : Value} {W : World} (h : QKp k d v W) (hk : Bd k m) (hd : d < BB ^ m) : QVp m k d v W := by
  obtain ⟨b, s, t, e, h1, h2⟩ := h
  exact ⟨b, s, t, e, h1.uv' hk, h2.lv hd⟩
theorem qk_den {k : Int} {d : Nat} (cs : List Value) (W : World) (h : (CU.agg (fQK k d)).p cs W) : ∃ u, cs[2]? = some u ∧ NatV W u d := by
  obtain ⟨b, s, t, e, _, h1⟩ := h
  rw [cells3 e]
  exact ⟨t, rfl, h1⟩
/-- Stores into a rational's box. -/
theorem nat_plain {v : Value} {W : World} {x : Nat} (h : NatV W v x) : v.cells = #[v] ∧ v.oneCell' = true ∧ noLimb v = true := by
  obtain ⟨A, n, c, rfl⟩ := h.form
  exact ⟨rfl, rfl, rfl⟩
theorem sp_whole {m : Nat} {k : Int} {d : Nat} {q : Rat} (v : Value) (W : World) (h : (fQN q).p v W) : v.cells.size = 3 ∧ (∀ u, u ∈ v.cells.toList → u.oneCell' = true) ∧ v.cells.toList.all noLimb = true ∧ ∀ cs, (CU.agg (fQV m k d)).p cs W → 0 + 3 ≤ cs.length ∧ (CU.agg (fQN q)).p (splice cs 0 v.cells.toList) W := by
  obtain ⟨A, n, c, A', n', c', rfl⟩ := qn_form h
  refine ⟨rfl, three_one, rfl, fun cs hc => ?_⟩
  obtain ⟨b, s, t, e, _⟩ := hc
  rw [cells3 e]
  exact ⟨by simp, h⟩
theorem sp_numV {m : Nat} {k0 k : Int} {d : Nat} (v : Value) (W : World) (h : (fNV k).p v W) : v.cells.size = 2 ∧ (∀ u, u ∈ v.cells.toList → u.oneCell' = true) ∧ v.cells.toList.all noLimb = true ∧ ∀ cs, (CU.agg (fQV m k0 d)).p cs W → 0 + 2 ≤ cs.length ∧ (CU.agg (fQM m k d)).p (splice cs 0 v.cells.toList) W := by
  obtain ⟨A, n, c, rfl, h1⟩ := NV.nat h
  refine ⟨rfl, fun u hu => by simp [Value.cells] at hu; rcases hu with rfl | rfl <;> rfl, rfl, fun cs hc => ?_⟩
  obtain ⟨b, s, t, e, _, h2⟩ := hc
  rw [cells3 e]
  exact ⟨by simp, _, _, t, rfl, h, h2⟩
theorem sp_numK {k0 k : Int} {d : Nat} (v : Value) (W : World) (h : (fNV k).p v W) : v.cells.size = 2 ∧ (∀ u, u ∈ v.cells.toList → u.oneCell' = true) ∧ v.cells.toList.all noLimb = true ∧ ∀ cs, (CU.agg (fQK k0 d)).p cs W → 0 + 2 ≤ cs.length ∧ (CU.agg (fQK k d)).p (splice cs 0 v.cells.toList) W := by
  obtain ⟨A, n, c, rfl, h1⟩ := NV.nat h
  refine ⟨rfl, fun u hu => by simp [Value.cells] at hu; rcases hu with rfl | rfl <;> rfl, rfl, fun cs hc => ?_⟩
  obtain ⟨b, s, t, e, _, h2⟩ := hc
  rw [cells3 e]
  exact ⟨by simp, _, _, t, rfl, h, h2⟩
theorem sp_denK {k : Int} {d0 d : Nat} (v : Value) (W : World) (h : (fNat d).p v W) : v.cells.size = 1 ∧ (∀ u, u ∈ v.cells.toList → u.oneCell' = true) ∧ v.cells.toList.all noLimb = true ∧ ∀ cs, (CU.agg (fQK k d0)).p cs W → 2 + 1 ≤ cs.length ∧ (CU.agg (fQK k d)).p (splice cs 2 v.cells.toList) W := by
  obtain ⟨h1, h2, h3⟩ := nat_plain h
  rw [h1]
  refine ⟨rfl, fun u hu => by simp at hu; rw [hu]; exact h2, by simp [h3], fun cs hc => ?_⟩
  obtain ⟨b, s, t, e, h4, _⟩ := hc
  rw [cells3 e]
  exact ⟨by simp, b, s, v, rfl, h4, h⟩
theorem sp_abs {m : Nat} {k : Int} {x d : Nat} (v : Value) (W : World) (h : (fNat x).p v W) : v.cells.size = 1 ∧ (∀ u, u ∈ v.cells.toList → u.oneCell' = true) ∧ v.cells.toList.all noLimb = true ∧ ∀ cs, (CU.agg (fQM m k d)).p cs W → 1 + 1 ≤ cs.length ∧ (CU.agg (fQA m (decide (k < 0)) x d)).p (splice cs 1 v.cells.toList) W := by
  obtain ⟨h1, h2, h3⟩ := nat_plain h
  rw [h1]
  refine ⟨rfl, fun u hu => by simp at hu; rw [hu]; exact h2, by simp [h3], fun cs hc => ?_⟩
  obtain ⟨b, s, t, e, h4, h5⟩ := hc
  obtain ⟨A, n, c, rfl, rfl⟩ := h4.form
  rw [cells3 e]
  exact ⟨by simp, v, t, rfl, h, h5⟩
theorem sp_den {m : Nat} {sg : Bool} {q : Rat} {x y d : Nat} (hs : sg = decide (q.num < 0)) (hx : x = q.num.natAbs) (hy : y = q.den) (v : Value) (W : World) (h : (fNat y).p v W) : v.cells.size = 1 ∧ (∀ u, u ∈ v.cells.toList → u.oneCell' = true) ∧ v.cells.toList.all noLimb = true ∧ ∀ cs, (CU.agg (fQA m sg x d)).p cs W → 2 + 1 ≤ cs.length ∧ (CU.agg (fQN q)).p (splice cs 2 v.cells.toList) W := by
  obtain ⟨h1, h2, h3⟩ := nat_plain h
  rw [h1]
  refine ⟨rfl, fun u hu => by simp at hu; rw [hu]; exact h2, by simp [h3], fun cs hc => ?_⟩
  obtain ⟨s, t, e, h4, _⟩ := hc
  rw [cells3 e]
  refine ⟨by simp, .bool sg, s, v, rfl, ?_, by rw [← hy]; exact h⟩
  obtain ⟨A, n, c, l, rfl, g1, g2⟩ := h4
  exact ⟨A, n, c, l, by rw [hs], by rw [← hx]; exact g1, g2⟩

/-- A value that reads as this rational, in parts of at most m limbs. -/
def RVp (m : Nat) (q : Rat) (v : Value) (w : World) : Prop := ∃ k d, QVp m k d v w ∧ mkRat k d = q
def fRV (m : Nat) (q : Rat) : UF := .mk' (RVp m q) fun _ _ _ ⟨k, d, h, e⟩ u => ⟨k, d, (fQV m k d).us _ _ _ h u, e⟩
theorem QNp.rv {m : Nat} {q : Rat} {v : Value} {W : World} (h : QNp q v W) (hq : QB q m) : RVp m q v W := ⟨_, _, qn_qv h hq, Rat.mkRat_self q⟩
theorem RVp.mono {m m' : Nat} {q : Rat} {v : Value} {W : World} (h : RVp m q v W) (hm : m ≤ m') : RVp m' q v W := by
  obtain ⟨k, d, h1, h2⟩ := h
  exact ⟨k, d, qv_mono h1 hm, h2⟩
theorem RVp.qb {m : Nat} {q : Rat} {v : Value} {W : World} (h : RVp m q v W) (hm : 0 < m) : QB q m := by
  obtain ⟨k, d, ⟨b, s, t, _, h1, h2⟩, rfl⟩ := h
  exact QB.of h1.bd h2.bound hm
theorem rv_len (m : Nat) (q : Rat) : ∀ cs : List Value, ∀ W, (fRV m q).p (.agg cs.toArray) W → cs.length = 3 := fun cs W ⟨k, d, h, _⟩ => qv_len m k d cs W h
theorem rv_box {m : Nat} {q : Rat} {v : Value} {W : World} (h : (fRV m q).p v W) : (CU.agg (fRV m q)).p v.cells.toList W ∧ v.cells.toList.all noLimb = true := by
  obtain ⟨k, d, h1, h2⟩ := h
  obtain ⟨g1, g2⟩ := qv_box h1
  exact ⟨⟨k, d, g1, h2⟩, g2⟩
/-- A call that yields one value. -/
theorem calls_eq {P : Program} {f : FuncId} {args : Array Value} {W : World} {u : Value} (h : Calls P f args W fun e w' => e = .returned u ∧ Below W.heap.size W w') : Calls P f args W (Ret W (UF.eq u).toSF) := h.mono fun _ _ ⟨h1, h2⟩ => ⟨u, h1, rfl, h2⟩
end Go.Proofs.Wd


namespace Go.Proofs.Wd
open Go.RowKit Lb

/-- A slice whose elements lie z cells apart, the i-th one's cells known by the i-th of a list. -/
def SF.row (z : Nat) (Cs : List CU) : SF := ⟨fun v W => ∃ A c, v = .slice A Cs.length c ∧ Cs.length ≤ c ∧ c ≤ 9223372036854775807 ∧ (A = none → c = 0) ∧ ∀ i C, Cs[i]? = some C → ∃ b o cs, A = some ⟨b, o, none⟩ ∧ Mem W b (o + i * z) cs ∧ C.p cs W,
  fun _ _ _ ⟨A, c, h1, h2, h3, h4, h5⟩ hb => ⟨A, c, h1, h2, h3, h4, fun i C hi => let ⟨b, o, cs, g1, g2, g3⟩ := h5 i C hi; ⟨b, o, cs, g1, g2.below hb, C.us _ _ _ g3 (keepU_below hb)⟩⟩⟩
/-- How far apart elements of a slice type lie. -/
def elemSize (P : Program) (t : TypeId) : Option Nat := match P.underlying t with
  | some (.slice e) => (P.info? e).map (·.size)
  | _ => none
section
variable {F : Fence} {m : Nat} {P : Program} {w0 : World} {ops : Array Oper} {G : Nat → SF} {d : Tmp} {ty : TypeId} {pos : String} {aft : Array Edge}
theorem ok_index {x y : Operand} {t : TypeId} {z : Nat} {Cs : List CU} {i : Nat} {C : CU} (hz : elemSize P t = some z) (hi : Cs[i]? = some C) (hx : ∀ v W, (fct G x).p v W → (SF.row z Cs).p v W) (hy : ∀ v W, (fct G y).p v W → v = .int .i64 (i : Int)) (hd : ∀ v W, (SF.ptr C.cf).p v W → (G d).p v W := by exact fun _ _ h => h) : GdOK F m P w0 ops G ⟨some d, .indexAddr t x y, ty, pos, aft, none⟩ :=
  ok_pure (fun _ e => by cases e) (fun _ e => by cases e) fun b W hb hh => by
    obtain ⟨A, c, e, h2, h3, h4, h5⟩ := hx _ _ (hh x (by simp [Op.operands]))
    have e2 := hy _ _ (hh y (by simp [Op.operands]))
    obtain ⟨b', o, cs, rfl, h6, h7⟩ := h5 i C hi
    have hlt : i < Cs.length := (List.getElem?_eq_some_iff.1 hi).1
    unfold elemSize at hz
    split at hz <;> try cases hz
    rename_i e' hu
    cases hin : P.info? e' with
    | none => rw [hin] at hz; cases hz
    | some ie =>
      rw [hin] at hz
      simp only [Option.map_some, Option.some.injEq] at hz
      have hel : P.elem t = e' := by simp [Program.elem, hu]
      refine ⟨.pointer (some ⟨b', o + i * z, none⟩), ?_, hd _ _ ⟨b', o + i * z, cs, rfl, h7, h6⟩⟩
      have hb1 : (0 : Int) ≤ (i : Int) ∧ (i : Int) < (Cs.length : Nat) := by omega
      simp only [execOp, e, e2]
      rw [Sem.run_bind, run_indexAt_slice _ _ _ _ _ _ _ (by rw [hel]; exact hu), if_pos hb1, hel]
      simp [sizeOf, typeInfo, hin, hz, Addr.add_lit]
/-- A fact that holds under a condition. -/
def SF.imp (c : Prop) (f : SF) : SF := ⟨fun v W => c → f.p v W, fun _ _ _ h hb hc => f.st _ _ _ (h hc) hb⟩
/-- An operation by another table. -/
theorem gd_imp {op : Op} (L : List (Nat × SF)) (f : SF) (hL : ∀ q, q ∈ L → ∀ v W, (G q.1).p v W → q.2.p v W) (hd : ∀ v W, f.p v W → (G d).p v W) (hnd : (!(readsOf ⟨some d, op, ty, pos, aft, none⟩).contains d && !(L.map (·.1)).contains d) = true)
    (h : GdOK F m P w0 ops (upd (upd G [(d, f)]) L) ⟨some d, op, ty, pos, aft, none⟩) : GdOK F m P w0 ops G ⟨some d, op, ty, pos, aft, none⟩ := by
  rw [Bool.and_eq_true] at hnd
  intro b W K Q hb hr hK
  refine h b W K Q hb (fun t ht => ?_) fun v W' hv hb' => hK v W' (fun d' e => ?_) hb'
  · have hne : Nat.beq d t = false := by
      cases e : Nat.beq d t with
      | false => rfl
      | true =>
        have := Nat.eq_of_beq_eq_true e
        subst this
        have h1 := hnd.1
        rw [List.contains_iff_mem.2 ht] at h1
        cases h1
    have key : ∀ l : List (Nat × SF), (∀ q, q ∈ l → ∀ v W, (G q.1).p v W → q.2.p v W) → (upd (upd G [(d, f)]) l t).p (b.tmps.getD t undef) W := by
      intro l
      induction l with
      | nil =>
        intro _
        show (bif Nat.beq d t then f else G t).p _ _
        rw [hne]
        exact hr t ht
      | cons q l ih =>
        intro hl
        show (bif Nat.beq q.1 t then q.2 else upd (upd G [(d, f)]) l t).p _ _
        cases e : Nat.beq q.1 t with
        | true =>
          have e2 := Nat.eq_of_beq_eq_true e
          exact hl q (by simp) _ _ (by rw [e2]; exact hr t ht)
        | false => exact ih fun x hx => hl x (by simp [hx])
    exact key L hL
  · cases e
    have h1 := hv d rfl
    rw [upd_other (by simpa using hnd.2)] at h1
    have h2 : (bif Nat.beq d d then f else G d).p v W' := h1
    rw [show Nat.beq d d = true from Nat.beq_refl d] at h2
    exact hd v W' h2
theorem pick_and {b c : Bool} {v : Value} (h : v = .bool c) (e : b = true) : v = .bool (b && c) := by rw [e]; exact h
theorem pick_and' {b c : Bool} {v : Value} (h : v = .bool false) (e : b = false) : v = .bool (b && c) := by rw [e]; exact h
theorem pick_or {b c : Bool} {v : Value} (h : v = .bool true) (e : b = true) : v = .bool (b || c) := by rw [e]; exact h
theorem pick_or' {b c : Bool} {v : Value} (h : v = .bool c) (e : b = false) : v = .bool (b || c) := by rw [e]; exact h
/-- Comparisons of known integers. -/
theorem ok_cmpI {op : BinOp} {t : TypeId} {x y : Operand} {t' : TypeId} (k : IntKind) (u v : Int) (r : Bool) (hx : ∀ q W, (fct G x).p q W → q = .int k u) (hy : ∀ q W, (fct G y).p q W → q = .int k v) (hr : (match op with | .eql => u == v | .neq => u != v | .lss => decide (u < v) | .leq => decide (u ≤ v) | .gtr => decide (u > v) | .geq => decide (u ≥ v) | _ => false) = r) (ho : (match op with | .eql | .neq | .lss | .leq | .gtr | .geq => true | _ => false) = true) (hd : ∀ W, (G d).p (.bool r) W := by exact fun _ => rfl) : GdOK F m P w0 ops G ⟨some d, .binOp op t x y t', ty, pos, aft, none⟩ :=
  ok_bin (.int k u) (.int k v) (.bool r) hx hy (fun W => by cases op <;> simp [eqGuard]) (fun W => by
    cases op <;> first
      | exact absurd ho Bool.false_ne_true
      | (subst hr; simp [binOp, Op.intCmp])) hd
/-- Sums of known integers. -/
theorem ok_addI {t : TypeId} {x y : Operand} {t' : TypeId} (k : IntKind) (u v r : Int) (hx : ∀ q W, (fct G x).p q W → q = .int k u) (hy : ∀ q W, (fct G y).p q W → q = .int k v) (hr : k.wrap (u + v) = r) (hd : ∀ W, (G d).p (.int k r) W := by exact fun _ => rfl) : GdOK F m P w0 ops G ⟨some d, .binOp .add t x y t', ty, pos, aft, none⟩ :=
  ok_bin (.int k u) (.int k v) (.int k r) hx hy (fun W => by simp [eqGuard]) (fun W => by simp [binOp, Op.intArith, hr]) hd
/-- The lesser of two known integers. -/
theorem ok_minI {x y : Operand} {ats : Array TypeId} (u v : Int) (hx : ∀ q W, (fct G x).p q W → q = .int .i64 u) (hy : ∀ q W, (fct G y).p q W → q = .int .i64 v) (hd : ∀ W, (G d).p (.int .i64 (min u v)) W := by exact fun _ => rfl) : GdOK F m P w0 ops G ⟨some d, .call ⟨.builtin .min, #[x, y], ats⟩, ty, pos, aft, none⟩ := by
  intro b W K Q hb hr hK
  have e1 := hx _ _ (fct_holds hr (x := x) (by simp [Op.operands, Call.operands]))
  have e2 := hy _ _ (fct_holds hr (x := y) (by simp [Op.operands, Call.operands]))
  refine ⟨fun f hf => (by
    unfold Oper.about at hf
    simp [resolve, go_sem] at hf), ?_⟩
  rw [Oper.semAt_eq _ _ _ (fun _ e => by cases e)]
  have : (execOp b.eval ⟨some d, .call ⟨.builtin .min, #[x, y], ats⟩, ty, pos, aft, none⟩).run P W = .ok (.value (.int .i64 (min u v))) W := by
    have h : min u v = if v < u then v else u := by split <;> omega
    simp [execOp, resolve, invoke, builtin, e1, e2, Builtin.min_, Builtin.min2, h]
  rw [this]
  exact hK _ _ (fun d' e' => by cases e'; exact hd _) (Below.refl _ _)
/-- The length of a row. -/
theorem ok_lenR {x : Operand} {t : TypeId} {z : Nat} {Cs : List CU} (ht : P.underlying t = some (.slice (P.elem t))) (hx : ∀ v W, (fct G x).p v W → (SF.row z Cs).p v W := by exact fun _ _ h => h) (hd : ∀ W, (G d).p (.int .i64 (Cs.length : Nat)) W := by exact fun _ => rfl) : GdOK F m P w0 ops G ⟨some d, .call ⟨.builtin .len, #[x], #[t]⟩, ty, pos, aft, none⟩ :=
  ok_len ht fun v W h => by
    obtain ⟨A, c, e, _⟩ := hx v W h
    exact ⟨A, Cs.length, c, e, hd W⟩
end

section
variable {S : Nat → Prop} {F : Fence} {m : Nat} {P : Program} {Q : Exit → Act → World → Prop} {w0 : World} {K : List (Nat × KF)} {B : List Bx} {n : Nat} {a : Act} {w : World}
/-- A loop whose rounds are counted in a slot. -/
theorem st_loop {c : Code} (N i : Nat) (Kf : Nat → List (Nat × KF)) (hi : ∀ k, (i, KF.u (fI (k : Nat))) ∈ Kf k) (h0 : StS S w0 (Kf 0) B n a w)
    (round : ∀ k a w, k ≤ N → StS S w0 (Kf k) B n a w → c.wpIn F m P (Exit.then (fun a' w' => k < N ∧ StS S w0 (Kf (k + 1)) B n a' w') Q) a w) : (Code.loop c).wpIn F m P Q a w := by
  refine wpIn_loop (fun a w => ∃ k, k ≤ N ∧ StS S w0 (Kf k) B n a w) (fun a _ => N + 1 - (match a.tmps.getD i undef with | .int _ z => z.toNat | _ => 0)) ⟨0, Nat.zero_le _, h0⟩ ?_
  rintro a w ⟨k, hk, hA⟩
  refine Code.wpIn_mono ?_ (round k a w hk hA)
  intro e a' w' h
  cases e with
  | normal =>
    obtain ⟨h1, h2⟩ : k < N ∧ StS S w0 (Kf (k + 1)) B n a' w' := h
    refine ⟨⟨k + 1, h1, h2⟩, ?_⟩
    have e1 : a.tmps.getD i undef = .int .i64 (k : Nat) := hA.sl _ (hi k)
    have e2 : a'.tmps.getD i undef = .int .i64 ((k + 1 : Nat) : Int) := h2.sl _ (hi (k + 1))
    simp only [e1, e2, Int.toNat_natCast]
    have h3 : N + 1 - (k + 1) < N + 1 - k := by omega
    exact h3
  | _ => exact h
end
end Go.Proofs.Wd


namespace Go.Proofs.Wd
open Go.RowKit

section
variable {S : Nat → Prop} {w0 : World} {K : List (Nat × KF)} {B : List Bx} {n : Nat} {a : Act} {w : World}
theorem imp_app {c : Prop} {f : SF} {v : Value} {W : World} (e : c) (h : (SF.imp c f).p v W) : f.p v W := h e
/-- The table, the kept slots' values said; K0 is looked at, not kept. -/
def strongK (K0 K : List (Nat × KF)) (B : List Bx) (a : Act) (t : Nat) : SF := if t ∈ K.map (·.1) ++ B.map (·.t) then ⟨fun v W => (envS (K0 ++ K) B t).p v W ∧ v = a.tmps.getD t undef, fun _ _ _ h hb => ⟨(envS (K0 ++ K) B t).st _ _ _ h.1 hb, h.2⟩⟩ else envS (K0 ++ K) B t
variable {F : Fence} {m : Nat} {P : Program} {ops : Array Oper} {Q : Exit → Act → World → Prop}
/-- A region of a walk: the first k operations by the table L, the others behind them by their own rules. -/
theorem st_of_tailK (K0 : List (Nat × KF)) (k : Nat) (L : List (Nat × Rw)) (h : StS S w0 (K0 ++ K) B n a w) {Goal : Prop} {Fin : Act → World → Prop}
    (hT : ∀ G' : Nat → SF, At w G' n a w → Obs F m P w ops (upd G' (rowsOf L)) (ops.toList.take k) → (∀ a' w', At w (maskT ops k (upd G' (rowsOf L))) n a' w' → Fin a' w') → Goal)
    (hap : apartDst ops = true) (hks : ((L.map (·.1)).all fun t => (List.range k).any fun i => dstAt ops i == some t) = true) (hun : untouched ops (K.map (·.1) ++ B.map (·.t)) = true) (hnd : nodupB (L.map (·.1)) = true)
    (hobs : Obs F m P w ops (upd (envS (K0 ++ K) B) (rowsOf L)) (ops.toList.take k))
    (hfin : ∀ a w, StS S w0 (keepOf L ++ K) B n a w → (∀ q, q ∈ rowsOf L → q.2.p (a.tmps.getD q.1 undef) w) → Fin a w) : Goal := by
  have hkeys : (rowsOf L).map (·.1) = L.map (·.1) := by simp [rowsOf]
  have hsame : ∀ t, t ∈ K.map (·.1) ++ B.map (·.t) → ∀ i, dstAt ops i ≠ some t := fun t ht i hi => by
    have h1 := List.all_eq_true.1 hun t ht
    obtain ⟨o, ho, _⟩ := dstAt_some hi
    have h2 := List.all_eq_true.1 h1 i (List.mem_range.2 (Array.getElem?_eq_some_iff.1 ho).1)
    rw [hi] at h2
    simp at h2
  have hv : ∀ t, t ∈ K.map (·.1) ++ B.map (·.t) → a.tmps.getD t undef = a.tmps.getD t undef := fun _ _ => rfl
  -- the slots of K and B stay: a table that says so
  have hA := h.at
  refine hT (strongK K0 K B a) ⟨hA.gr, hA.size, hA.nd, fun t => ?_⟩ ?_ fun a' w' hA' => ?_
  · by_cases ht : t ∈ K.map (·.1) ++ B.map (·.t)
    · unfold strongK; rw [if_pos ht]; exact ⟨hA.sl t, rfl⟩
    · unfold strongK; rw [if_neg ht]; exact hA.sl t
  · -- the obligations hold with the stronger table
    have hkn : ∀ t, t ∈ K.map (·.1) ++ B.map (·.t) → ((rowsOf L).map (·.1)).contains t = false := fun t ht => by
      cases hc : ((rowsOf L).map (·.1)).contains t with
      | false => rfl
      | true =>
        exfalso
        have hm := List.contains_iff_mem.1 hc
        rw [hkeys] at hm
        obtain ⟨i, _, he⟩ := List.any_eq_true.1 (List.all_eq_true.1 hks t hm)
        exact hsame t ht i (by simpa using he)
    have hle : ∀ t v W, (upd (strongK K0 K B a) (rowsOf L) t).p v W → (upd (envS (K0 ++ K) B) (rowsOf L) t).p v W := fun t v W hh => by
      by_cases ht : t ∈ K.map (·.1) ++ B.map (·.t)
      · rw [upd_other (hkn t ht)] at hh ⊢
        unfold strongK at hh
        rw [if_pos ht] at hh
        exact hh.1
      · have : ∀ l : List (Nat × SF), upd (strongK K0 K B a) l t = upd (envS (K0 ++ K) B) l t := fun l => by
          induction l with
          | nil => exact if_neg ht
          | cons q l ih =>
            show (bif Nat.beq q.1 t then q.2 else upd _ l t) = (bif Nat.beq q.1 t then q.2 else upd _ l t)
            rw [ih]
        rwa [this] at hh
    have hge : ∀ t, (∃ i, dstAt ops i = some t) → ∀ v W, (upd (envS (K0 ++ K) B) (rowsOf L) t).p v W → (upd (strongK K0 K B a) (rowsOf L) t).p v W := fun t ⟨i, hi⟩ v W hh => by
      have ht : ¬ t ∈ K.map (·.1) ++ B.map (·.t) := fun ht => hsame t ht i hi
      have : ∀ l : List (Nat × SF), upd (strongK K0 K B a) l t = upd (envS (K0 ++ K) B) l t := fun l => by
        induction l with
        | nil => exact if_neg ht
        | cons q l ih =>
          show (bif Nat.beq q.1 t then q.2 else upd _ l t) = (bif Nat.beq q.1 t then q.2 else upd _ l t)
          rw [ih]
      rwa [this]
    have hconv : ∀ (o : Oper), o ∈ ops.toList → GdOK F m P w ops (upd (envS (K0 ++ K) B) (rowsOf L)) o → GdOK F m P w ops (upd (strongK K0 K B a) (rowsOf L)) o := by
      intro o ho hg
      have hdst : ∀ d, o.dst = some d → ∃ i, dstAt ops i = some d := fun d hd => by
        obtain ⟨i, hi⟩ := List.getElem?_of_mem ho
        exact ⟨i, by rw [dstAt_of (o := o) (by simpa using hi)]; exact hd⟩
      have hop : OpOK F m P w (upd (envS (K0 ++ K) B) (rowsOf L)) o → OpOK F m P w (upd (strongK K0 K B a) (rowsOf L)) o := fun h1 b W K' Q' hb hr hK' =>
        h1 b W K' Q' hb (fun t ht => hle t _ _ (hr t ht)) fun v W' hv hb' => hK' v W' (fun d hd => hge d (hdst d hd) _ _ (hv d hd)) hb'
      unfold GdOK at hg ⊢
      cases hgd : o.guard with
      | none => rw [hgd] at hg; exact hop hg
      | some q =>
        rw [hgd] at hg
        obtain ⟨g, bv, h1, h2, h3, h4⟩ := hg
        exact ⟨g, bv, h1, fun v W hh => h2 v W (hle g v W hh), fun e => hop (h3 e), fun e => ⟨fun d hd W => hge d (hdst d hd) _ _ ((h4 e).1 d hd W), (h4 e).2⟩⟩
    have hall : ∀ l : List Oper, (∀ o, o ∈ l → o ∈ ops.toList) → Obs F m P w ops (upd (envS (K0 ++ K) B) (rowsOf L)) l → Obs F m P w ops (upd (strongK K0 K B a) (rowsOf L)) l := by
      intro l
      induction l with
      | nil => intro _ _; trivial
      | cons o l ih => intro hm ho; exact ⟨hconv o (hm o (by simp)) ho.1, ih (fun o' ho' => hm o' (by simp [ho'])) ho.2⟩
    exact hall _ (fun o ho => List.mem_of_mem_take ho) hobs
  · have hg := hA'.gr
    have hslot : ∀ t, t ∈ K.map (·.1) ++ B.map (·.t) → a'.tmps.getD t undef = a.tmps.getD t undef := fun t ht => by
      have h1 := hA'.sl t
      unfold maskT at h1
      have h2 : ((List.range ops.size).any fun i => decide (k ≤ i) && (dstAt ops i == some t)) = false := by
        refine List.any_eq_false.2 fun i _ => ?_
        have := hsame t ht i
        simp [this]
      rw [h2] at h1
      have h3 : ((rowsOf L).map (·.1)).contains t = false := by
        cases hc : ((rowsOf L).map (·.1)).contains t with
        | false => rfl
        | true =>
          exfalso
          have hm := List.contains_iff_mem.1 hc
          rw [hkeys] at hm
          obtain ⟨i, _, he⟩ := List.any_eq_true.1 (List.all_eq_true.1 hks t hm)
          exact hsame t ht i (by simpa using he)
      rw [show (bif false then SF.any else upd _ (rowsOf L) t) = upd _ (rowsOf L) t from rfl, upd_other h3, strongK, if_pos ht] at h1
      exact h1.2
    have hrow : ∀ q, q ∈ rowsOf L → q.2.p (a'.tmps.getD q.1 undef) w' := fun q hm2 => by
      have h1 := hA'.sl q.1
      obtain ⟨i, hi, he⟩ := List.any_eq_true.1 (List.all_eq_true.1 hks q.1 (by rw [← hkeys]; exact List.mem_map.2 ⟨_, hm2, rfl⟩))
      have hik := List.mem_range.1 hi
      have he : dstAt ops i = some q.1 := by simpa using he
      unfold maskT at h1
      have h2 : ((List.range ops.size).any fun j => decide (k ≤ j) && (dstAt ops j == some q.1)) = false := by
        refine List.any_eq_false.2 fun j _ => ?_
        by_cases hj : k ≤ j
        · have : dstAt ops j ≠ some q.1 := fun e => by
            obtain ⟨oi, ho1, hd1⟩ := dstAt_some he
            obtain ⟨oj, ho2, hd2⟩ := dstAt_some e
            exact apartDst_spec hap ho1 ho2 (by omega) hd1 hd2
          simp [this]
        · simp [hj]
      rw [h2, show (bif false then SF.any else upd (strongK K0 K B a) (rowsOf L) q.1) = upd (strongK K0 K B a) (rowsOf L) q.1 from rfl, upd_mem (q := q) (by rw [hkeys]; exact hnd) hm2] at h1
      exact h1
    refine hfin a' w' ⟨h.gr.trans hg, hA'.size, hA'.nd, fun q hq => ?_, h.bx.keep hg (keepU_below hg) B fun x hx => hslot _ (List.mem_append_right _ (List.mem_map.2 ⟨x, hx, rfl⟩)), h.so.imp (fun hu q hq => (by
      rcases List.mem_append.1 hq with hq | hq
      · obtain ⟨f, e, _⟩ := mem_keepOf hq; exact ⟨f, e⟩
      · exact hu q (List.mem_append_right _ hq))) (fun x => x)⟩ hrow
    rcases List.mem_append.1 hq with hq | hq
    · obtain ⟨f, hqf, hm⟩ := mem_keepOf hq
      have h1 := hrow (q.1, f.toSF) (List.mem_map.2 ⟨_, hm, rfl⟩)
      rw [hqf]
      exact h1
    · rw [hslot q.1 (List.mem_append_left _ (List.mem_map.2 ⟨q, hq, rfl⟩))]
      exact KF.us (h.sl q (List.mem_append_right _ hq)) (keepU_below hg)
theorem region_goPS {id : Nat} (K0 : List (Nat × KF)) (pre : List Nat) (k : Nat) (L : List (Nat × Rw)) (hmix : P.follows .mixedOrders = true) (h : StS S w0 (K0 ++ K) B n a w)
    (hchk : (flowChkP ops pre k n (L.map (·.1)) && untouched ops (K.map (·.1) ++ B.map (·.t)) && nodupB (L.map (·.1))) = true)
    (hobs : Obs F m P w ops (upd (envS (K0 ++ K) B) (rowsOf L)) (ops.toList.take k))
    (hfin : ∀ Q', (∀ a w, Q .normal a w → Q' .normal a w) → ∀ a w, StS S w0 (keepOf L ++ K) B n a w → Tail F m P ops Q' k a w) : (Code.region id ops true).wpIn F m P Q a w := by
  simp only [Bool.and_eq_true] at hchk
  have hkeys : (rowsOf L).map (·.1) = L.map (·.1) := by simp [rowsOf]
  have h0 := hchk.1.1
  unfold flowChkP at h0
  simp only [Bool.and_eq_true] at h0
  obtain ⟨⟨⟨⟨⟨⟨⟨⟨⟨⟨⟨⟨⟨⟨⟨hap, _⟩, _⟩, _⟩, _⟩, hks⟩, _⟩, _⟩, _⟩, _⟩, _⟩, _⟩, _⟩, _⟩, _⟩, _⟩ := h0
  exact st_of_tailK K0 k L h (fun G' hA hO hF => region_tailP pre k (rowsOf L) hmix (by rw [hkeys]; exact hchk.1.1) hA hO hF) hap hks hchk.1.2 hchk.2 hobs (fun a w h _ => hfin (noPanic Q) (fun a w h => h) a w h)

end
end Go.Proofs.Wd


namespace Go.Proofs.Wd
open Go.RowKit

/-- An operation that makes a box: its place, slot, type, cells; what the table says of the slot. -/
structure NewB where
  i : Nat
  d : Nat
  e : TypeId
  cs : List Value
  f : SF
def SF.isIn (f : SF) (L : List (Nat × SF)) (d : Nat) : Prop := (d, f) ∈ L
/-- These boxes lie apart. -/
def ApartB (al : List NewB) (a : Act) : Prop := ∀ q q', q ∈ al → q' ∈ al → q.i ≠ q'.i → ∀ b b', blk (a.tmps.getD q.d undef) = some b → blk (a.tmps.getD q'.d undef) = some b' → b ≠ b'
/-- A region: what its first operations yield is known by the table; the rest runs behind them, in order. -/
theorem region_tailA {F : Fence} {m : Nat} {P : Program} {ops : Array Oper} {Q : Exit → Act → World → Prop} {id : Nat} {w0 : World} {G : Nat → SF} {n : Nat} {a : Act} {w : World} (al : List NewB) (k : Nat) (L : List (Nat × SF)) (hmix : P.follows .mixedOrders = true)
    (hal : ∀ q, q ∈ al → q.i < k ∧ q.f.isIn L q.d ∧ nodupB (L.map (·.1)) = true ∧ (∃ ty pos aft, ops[q.i]? = some ⟨some q.d, .alloc q.e, ty, pos, aft, none⟩) ∧ zeroCells P q.e = some q.cs ∧ ∀ v W, (SF.own w0 q.e q.cs).p v W → q.f.p v W)
    (hchk : flowChk ops true k n (L.map (·.1)) = true) (h : At w0 G n a w) (hobs : Obs F m P w0 ops (upd G L) (ops.toList.take k))
    (hfin : ∀ a w, At w0 (maskT ops k (upd G L)) n a w → ApartB al a → wpOpsIn F m P ops Q (List.range' k (ops.size - k)) a w) : (Code.region id ops true).wpIn F m P Q a w := by
  unfold flowChk at hchk
  simp only [Bool.and_eq_true] at hchk
  obtain ⟨⟨⟨⟨⟨⟨hap, hfr⟩, hpl⟩, hk⟩, hkeys⟩, hrd⟩, hdr⟩ := hchk
  have hk := of_decide_eq_true hk
  have hget : ∀ i o, i < k → ops[i]? = some o → GdOK F m P w0 ops (upd G L) o := fun i o hi ho => hobs.get i o (by rw [List.getElem?_take_of_lt hi]; simpa using ho)
  have hkey : ∀ t, (∀ j, j < k → dstAt ops j ≠ some t) → upd G L t = G t := fun t ht => by
    refine upd_other ?_
    cases hc : (L.map (·.1)).contains t with
    | false => rfl
    | true =>
      exfalso
      have hm := List.contains_iff_mem.1 hc
      obtain ⟨i, hi, he⟩ := List.any_eq_true.1 (List.all_eq_true.1 hkeys t hm)
      exact ht i (List.mem_range.1 hi) (by simpa using he)
  have hst : ∀ t, (∀ j, j < k → dstAt ops j ≠ some t) → (upd G L t).p (a.tmps.getD t undef) w := fun t ht => by rw [hkey t ht]; exact h.sl t
  have hmask : ∀ (a : Act) (w : World), (∀ t, (∃ j, j < k ∧ dstAt ops j = some t) ∨ (∀ j, dstAt ops j ≠ some t) → (upd G L t).p (a.tmps.getD t undef) w) → ∀ t, (maskT ops k (upd G L) t).p (a.tmps.getD t undef) w := fun a w hh t => by
    unfold maskT
    cases hc : (List.range ops.size).any fun i => decide (k ≤ i) && (dstAt ops i == some t) with
    | true => trivial
    | false =>
      refine hh t ?_
      by_cases hex : ∃ j, dstAt ops j = some t
      · obtain ⟨j, hj⟩ := hex
        left
        refine ⟨j, ?_, hj⟩
        have hlt : j < ops.size := by
          rcases Nat.lt_or_ge j ops.size with e | e
          · exact e
          · rw [dstAt, Array.getElem?_eq_none e] at hj; cases hj
        have := List.any_eq_false.1 hc j (List.mem_range.2 hlt)
        simp [hj] at this
        omega
      · exact .inr fun j hj => hex ⟨j, hj⟩
  have hrd' : ∀ i o, i < k → ops[i]? = some o → ∀ t, t ∈ looks ops o → ∀ j, dstAt ops j = some t → (o.after.any fun e => Region.binds .any e && e.on == j) = true := fun i o hi ho t ht j hj => by
    have h1 := List.all_eq_true.1 hrd i (List.mem_range.2 hi)
    rw [ho] at h1
    have hlt : j < ops.size := by
      rcases Nat.lt_or_ge j ops.size with e | e
      · exact e
      · rw [dstAt, Array.getElem?_eq_none e] at hj; cases hj
    have h2 := List.all_eq_true.1 (List.all_eq_true.1 h1 t ht) j (List.mem_range.2 hlt)
    rw [hj] at h2
    simpa using h2
  simp only [Bool.not_true, Bool.false_or, Bool.and_eq_true] at hdr
  obtain ⟨⟨hear, htl⟩, hch⟩ := hdr
  have hch' : ∀ r, r < ops.size - k → Region.ready .any ops (listedTo ops.size (k + r)) = [k + r] := fun r hr => by
    have := List.all_eq_true.1 hch r (List.mem_range.2 hr)
    simpa using this
  have hfl : ∀ i, (Array.replicate ops.size false).getD i false = false := fun i => by
    rw [Array.getD_eq_getD_getElem?, Array.getElem?_replicate]
    split <;> rfl
  have hft : ∀ i, i < ops.size → (Array.replicate ops.size false).getD i true = false := fun i hi => by
    rw [Array.getD_eq_getD_getElem?, Array.getElem?_replicate, if_pos hi]
    rfl
  have hnd : ∀ t, (∀ j, dstAt ops j ≠ some t) → isDstL ops (Array.replicate ops.size false) t = false := fun t ht => by
    cases hd : isDstL ops (Array.replicate ops.size false) t with
    | false => rfl
    | true =>
      exfalso
      unfold isDstL at hd
      obtain ⟨i, _, hp⟩ := List.any_eq_true.1 hd
      simp only [Bool.and_eq_true, beq_iff_eq] at hp
      exact ht i (by rw [← dstAt_eq]; exact hp.2)
  refine wpIn_region_any hmix ?_
  refine wpAnyIn_of_C (z := 100000) (C := fun _ => True) _ _ _ _ ?_
  have hdrew : Below w.heap.size w w.drew := (Below.refl _ w).drew
  refine flowT_at (k := k) (z := 100000) (w := w.drew) (fun i => al.any fun q => q.i == i) (fun i v W => ∀ o, ops[i]? = some o → ∀ d, o.dst = some d → (upd G L d).p v W) (fun W => Below w0.heap.size w0 W ∧ Below w.heap.size w W) hear htl hap (by rw [h.size]; exact hfr) (by simpa using hk) Array.count_replicate_self (by simp) ?hcl ?hto (fun W W' hC hb => ⟨hC.1.trans (hb.mono hC.1.size), hC.2.trans (hb.mono hC.2.size)⟩) (fun i v W W' hE hb o ho d hd => (upd G L d).st _ _ _ (hE o ho d hd) hb) ⟨h.gr.trans (hdrew.mono h.gr.size), hdrew⟩ ?spec ?fin
  case hcl =>
    unfold closedB
    refine List.all_eq_true.2 fun i hi => ?_
    rw [hfl i]
    rfl
  case hto =>
    unfold onlyTo
    refine List.all_eq_true.2 fun i hi => ?_
    rw [hfl i]
    simp
  case spec =>
    intro i hik hl o ho b W hf K hK
    by_cases hAi : (al.any fun q => q.i == i) = true
    · obtain ⟨q, hq, hqi⟩ := List.any_eq_true.1 hAi
      obtain rfl : q.i = i := by simpa using hqi
      obtain ⟨_, hin, hndL, ⟨ty, pos, aft, hop⟩, hz, hown⟩ := hal q hq
      rw [ho] at hop
      cases hop
      have hg : GdOK F m P W ops (fun _ => SF.own W q.e q.cs) ⟨some q.d, .alloc q.e, ty, pos, aft, none⟩ := ok_alloc hz
      refine wpOpIn_of_gd ho hg (fun j g hj => ?_) (Below.refl _ _) (fun t ht => by cases ht) (fun v W' hv hb => ?_)
      · rw [hf.at_.size, h.size]
        obtain ⟨oj, hoj, hdj⟩ := dstAt_some hj
        exact inFrame_spec hfr hoj hdj
      · obtain ⟨b', e1, h1, h2⟩ := hv q.d rfl
        refine hK v W' (fun o' ho' d hd => ?_) hb (fun _ b'' hb'' => ?_)
        · rw [ho] at ho'
          cases ho'
          cases hd
          rw [upd_mem (q := (q.d, q.f)) hndL hin]
          exact hown v W' ⟨b', e1, Nat.le_trans hf.at_.cls.1.size h1, h2⟩
        · subst e1
          cases hb''
          exact ⟨h1, (Array.getElem?_eq_some_iff.1 h2).1⟩
    refine wpOpIn_of_gd ho (hget i o hik ho) (fun j g hj => ?_) hf.at_.cls.1 (fun t ht => ?_) (fun v W' hv hb => hK v W' (fun o' ho' d hd => by rw [ho] at ho'; cases ho'; exact hv d hd) hb (fun e => absurd e hAi))
    · rw [hf.at_.size, h.size]
      cases hoj : ops[j]? with
      | none => rw [dstAt, hoj] at hj; cases hj
      | some oj => rw [dstAt_of hoj] at hj; exact inFrame_spec hfr hoj hj
    · by_cases hex : ∃ j, dstAt ops j = some t
      · obtain ⟨j, hj⟩ := hex
        have h1 := hrd' i o hik ho t ht j hj
        obtain ⟨x, hx, he⟩ := Array.any_eq_true.1 h1
        simp only [Bool.and_eq_true, beq_iff_eq] at he
        cases hoj : ops[j]? with
        | none => rw [dstAt, hoj] at hj; cases hj
        | some oj =>
          rw [dstAt_of hoj] at hj
          exact hf.at_.vals j oj t ⟨hft j (Array.getElem?_eq_some_iff.1 hoj).1, _, Array.getElem_mem hx, he.1, he.2⟩ hoj hj oj hoj t hj
      · have hno : ∀ j, dstAt ops j ≠ some t := fun j hj => hex ⟨j, hj⟩
        rw [hf.at_.keep t (hnd t hno)]
        exact (upd G L t).st _ _ _ (hst t (fun j _ => hno j)) hf.at_.cls.2
  case fin =>
    intro b W hf
    have hA : At w0 (maskT ops k (upd G L)) n b W := ⟨hf.at_.cls.1, by rw [hf.at_.size]; exact h.size, by rw [hf.at_.defers]; exact h.nd, hmask b W fun t ht => by
      rcases ht with ⟨j, hjk, hj⟩ | hno
      · cases hoj : ops[j]? with
        | none => rw [dstAt, hoj] at hj; cases hj
        | some oj =>
          rw [dstAt_of hoj] at hj
          exact hf.at_.vals j oj t ⟨hjk, hft j (Array.getElem?_eq_some_iff.1 hoj).1⟩ hoj hj oj hoj t hj
      · rw [hf.at_.keep t (hnd t hno)]
        exact (upd G L t).st _ _ _ (hst t (fun j _ => hno j)) hf.at_.cls.2⟩
    have h2 := forced (Q := Q) hch' (ops.size - k) 0 b W (by omega) (by simpa using hfin b W hA (fun q q' hq hq' hne b1 b2 e1 e2 => (by
      obtain ⟨g1, _, _, ⟨_, _, _, g2⟩, _⟩ := hal q hq
      obtain ⟨g1', _, _, ⟨_, _, _, g2'⟩, _⟩ := hal q' hq'
      exact hf.apart q.i q'.i _ _ q.d q'.d b1 b2 ⟨g1, hft _ (by omega)⟩ ⟨g1', hft _ (by omega)⟩ hne (List.any_eq_true.2 ⟨q, hq, by simp⟩) (List.any_eq_true.2 ⟨q', hq', by simp⟩) g2 g2' rfl rfl e1 e2)))
    have h3 : ∀ (f : Nat) (l : Array Bool) (a : Act) (w : World), wpAnyIn F m P .any ops Q f l a w → wpAnyC F m P .any ops 100000 (fun _ => True) Q f l a w := by
      intro f
      induction f with
      | zero => intro l a w hh; exact hh
      | succ f ih => intro l a w hh; exact ⟨hh.1, fun i hi => wpOpIn_mono (fun a w h5 => ⟨.inr trivial, ih _ _ _ h5⟩) (hh.2 i hi)⟩
    exact h3 _ _ _ _ (by simpa using h2)

section
variable {S : Nat → Prop} {w0 : World} {K : List (Nat × KF)} {B : List Bx} {n : Nat} {a : Act} {w : World} {F : Fence} {m : Nat} {P : Program} {ops : Array Oper} {Q : Exit → Act → World → Prop}
theorem region_goA {id : Nat} (al : List NewB) (k : Nat) (L : List (Nat × Rw)) (hmix : P.follows .mixedOrders = true) (h : StS S w0 K B n a w)
    (hal : ∀ q, q ∈ al → q.i < k ∧ q.f.isIn (rowsOf L) q.d ∧ (∃ ty pos aft, ops[q.i]? = some ⟨some q.d, .alloc q.e, ty, pos, aft, none⟩) ∧ zeroCells P q.e = some q.cs ∧ ∀ v W, (SF.own w q.e q.cs).p v W → q.f.p v W)
    (hchk : (flowChk ops true k n (L.map (·.1)) && untouched ops (K.map (·.1) ++ B.map (·.t)) && nodupB (L.map (·.1))) = true)
    (hobs : Obs F m P w ops (upd (envS K B) (rowsOf L)) (ops.toList.take k))
    (hfin : ∀ a w, StS S w0 (keepOf L ++ K) B n a w → (∀ q, q ∈ rowsOf L → q.2.p (a.tmps.getD q.1 undef) w) → ApartB al a → Tail F m P ops Q k a w) : (Code.region id ops true).wpIn F m P Q a w := by
  simp only [Bool.and_eq_true] at hchk
  have hkeys : (rowsOf L).map (·.1) = L.map (·.1) := by simp [rowsOf]
  have h0 := hchk.1.1
  unfold flowChk at h0
  simp only [Bool.and_eq_true] at h0
  exact st_of_tail k L h (Fin := fun a w => ApartB al a → Tail F m P ops Q k a w) (fun G' hA hO hF => region_tailA al k (rowsOf L) hmix (fun q hq => let ⟨g1, g2, g3, g4, g5⟩ := hal q hq; ⟨g1, g2, by rw [hkeys]; exact hchk.2, g3, g4, g5⟩) (by rw [hkeys]; exact hchk.1.1) hA hO (fun a w hA hD => hF a w hA hD)) h0.1.1.1.1.1.1 h0.1.1.2 hchk.1.2 hchk.2 hobs (fun a w h hr hD => hfin a w h hr hD)
/-- A box that an operation has made: of its cells their number is known. -/
theorem own_new {te : TypeId} {cs : List Value} {W : World} {C : CU} (hC : ∀ W, C.p cs W) (hn : cs.all noLimb = true) (v : Value) (w : World) (h : (SF.own W te cs).p v w) : (SF.newBox W te C).p v w := by
  obtain ⟨b, h1, h2, h3⟩ := h
  exact ⟨b, cs, h1, h2, h3, hC w, hn⟩
/-- A new box becomes one of the call's own; it lies apart from the others. -/
theorem StS.adoptA (h : StS S w0 K B n a w) {W : World} {te : TypeId} {C : CU} (r : Bool) (t : Nat) (hv : (SF.newBox W te C).p (a.tmps.getD t undef) w) (hW : BlS S w0 W) (hB : ∀ y, y ∈ B → y.b < W.heap.size ∨ (r = true ∧ y.r = true) ∨ ∀ b, blk (a.tmps.getD t undef) = some b → y.b ≠ b) : ∃ b, W.heap.size ≤ b ∧ blk (a.tmps.getD t undef) = some b ∧ StS S w0 K (⟨t, te, C, b, r⟩ :: B) n a w := by
  obtain ⟨b, cs, h1, h2, h3, h4, h5⟩ := hv
  refine ⟨b, h2, by rw [h1]; rfl, h.gr, h.size, h.nd, h.sl, ⟨⟨cs, h1, .inr (.inl (Nat.le_trans hW.size h2)), h3, h4, h5, fun y hy => ?_⟩, h.bx⟩, h.so⟩
  rcases hB y hy with e | e | e
  · left
    show y.b ≠ b
    omega
  · exact .inr e
  · exact .inl (e b (by rw [h1]; rfl))
end
end Go.Proofs.Wd

