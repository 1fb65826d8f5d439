/- The calculus of walks by facts: the single operations; The calculus of walks by facts: calls, branches, loops, stores, returns; The calculus of walks by facts: boxes of the call's own, which are read and written. -/
import Derived.Test.YtghgemeclgpibaaMT3
import Derived.Great.BuildSlice
import Derived.Shelf.Abstract
namespace Go.Proofs.Wd
open Go.RowKit

section
variable {F : Fence} {m : Nat} {P : Program} {w0 : World} {ops : Array Oper} {G : Nat → SF} {d : Tmp} {ty : TypeId} {pos : String} {aft : Array Edge}

/-- What is known of an operand. -/
def fct (G : Nat → SF) : Operand → SF
  | .tmp t => G t
  | .const v => SF.eq v
  | .func f => SF.eq (.func (.func f) #[] #[])
  | .global g => SF.eq (.pointer (some ⟨g, 0, none⟩))
theorem fct_holds {b : Act} {W : World} {o : Oper} (h : ∀ t, t ∈ readsOf o → (G t).p (b.tmps.getD t undef) W) {x : Operand} (hx : x ∈ o.op.operands.toList) : (fct G x).p (b.eval x) W := by
  cases x with
  | tmp t => exact h t (List.mem_filterMap.2 ⟨_, hx, rfl⟩)
  | const v => rfl
  | func f => rfl
  | global g => rfl

theorem op_value {o : Oper} {b : Act} {W W' : World} {v : Value} {K : Act → World → Prop} {Q : Exit → Act → World → Prop} (hd : ∀ c, o.op ≠ .defer c) (hc : ∀ c, o.op ≠ .call c) (hrun : (execOp b.eval o).run P W = .ok (.value v) W') (hK : K (b.put o.dst v) W') : o.wpIn F m P b W K Q := by
  refine ⟨fun f hf => ?_, ?_⟩
  · unfold Oper.about at hf
    split at hf
    · rename_i c hcc; exact absurd hcc (hc c)
    · cases hf
  · rw [Oper.semAt_eq _ _ _ hd, hrun]
    exact hK

/-- An operation that yields a value and leaves the world, its operands' facts at hand. -/
theorem ok_pure {op : Op} (hd : ∀ c, op ≠ .defer c) (hc : ∀ c, op ≠ .call c)
    (h : ∀ (b : Act) (W : World), Below w0.heap.size w0 W → (∀ x, x ∈ op.operands.toList → (fct G x).p (b.eval x) W) → ∃ v, (execOp b.eval ⟨some d, op, ty, pos, aft, none⟩).run P W = .ok (.value v) W ∧ (G d).p v W) :
    GdOK F m P w0 ops G ⟨some d, op, ty, pos, aft, none⟩ := by
  intro b W K Q hb hr hK
  obtain ⟨v, hrun, hv⟩ := h b W hb fun x hx => fct_holds hr hx
  exact op_value hd hc hrun (hK v W (fun d' e => by cases e; exact hv) (Below.refl _ _))

theorem ok_move {x : Operand} (h : ∀ v W, Below w0.heap.size w0 W → (fct G x).p v W → (G d).p v W := by exact fun _ _ _ h => h) : GdOK F m P w0 ops G ⟨some d, .move x, ty, pos, aft, none⟩ :=
  ok_pure (fun _ e => by cases e) (fun _ e => by cases e) fun b W hb hx => ⟨_, rfl, h _ _ hb (hx x (by simp [Op.operands]))⟩
theorem ok_assign {x : Operand} (h : ∀ v W, Below w0.heap.size w0 W → (fct G x).p v W → (G d).p v W := by exact fun _ _ _ h => h) : GdOK F m P w0 ops G ⟨some d, .assign x, ty, pos, aft, none⟩ :=
  ok_pure (fun _ e => by cases e) (fun _ e => by cases e) fun b W hb hx => ⟨_, rfl, h _ _ hb (hx x (by simp [Op.operands]))⟩

/-- Cells that lie at an address. -/
def Mem (W : World) (b o : Nat) (cs : List Value) : Prop := ∀ j u, cs[j]? = some u → W.cell? ⟨b, o + j, none⟩ = some u
theorem Mem.below {W W' : World} {b o : Nat} {cs : List Value} (h : Mem W b o cs) (hb : Below W.heap.size W W') : Mem W' b o cs := fun j u hj => by
  have h1 := h j u hj
  exact (hb.cell (p := ⟨b, o + j, none⟩) (World.block_lt_of_cell? W _ h1)).trans h1
theorem Mem.drop {W : World} {b o : Nat} {cs : List Value} (h : Mem W b o cs) (k : Nat) : Mem W b (o + k) (cs.drop k) := fun j u hj => by
  rw [List.getElem?_drop] at hj
  rw [Nat.add_assoc]
  exact h (k + j) u hj
/-- A fact on cells that stays. -/
structure CF where
  p : List Value → World → Prop
  st : ∀ cs w w', p cs w → Below w.heap.size w w' → p cs w'
/-- A pointer to cells of which this is known. -/
def SF.ptr (C : CF) : SF := ⟨fun v W => ∃ b o cs, v = .pointer (some ⟨b, o, none⟩) ∧ C.p cs W ∧ Mem W b o cs, fun _ _ _ ⟨b, o, cs, h1, h2, h3⟩ hb => ⟨b, o, cs, h1, C.st _ _ _ h2 hb, h3.below hb⟩⟩
def CF.any : CF := ⟨fun _ _ => True, fun _ _ _ _ _ => trivial⟩

theorem ok_nil {x : Operand} {C : CF} (hx : ∀ v W, (fct G x).p v W → (SF.ptr C).p v W := by exact fun _ _ h => h) (h : ∀ v W, (SF.ptr C).p v W → (G d).p v W := by exact fun _ _ h => h) : GdOK F m P w0 ops G ⟨some d, .nilCheck x, ty, pos, aft, none⟩ :=
  ok_pure (fun _ e => by cases e) (fun _ e => by cases e) fun b W hb hh => by
    have h1 := hx _ _ (hh x (by simp [Op.operands]))
    obtain ⟨_, _, cs, e, _⟩ := id h1
    exact ⟨b.eval x, by simp [execOp, e], h _ _ h1⟩

/-- Where a field lies. -/
def fieldOff (P : Program) (s : TypeId) (f : Nat) : Option Nat := match P.underlying s with
  | some (.struct fs) => match fs[f]? with
    | some f => match P.info? f.type with
      | some i => if i.size = 0 then none else some f.offset
      | none => none
    | none => none
  | _ => none
theorem ok_field {x : Operand} {s : TypeId} {f : Nat} {C C' : CF} (k : Nat) (hk : fieldOff P s f = some k) (hx : ∀ v W, (fct G x).p v W → (SF.ptr C).p v W) (h : ∀ cs W, C.p cs W → C'.p (cs.drop k) W) (hd : ∀ v W, (SF.ptr C').p v W → (G d).p v W := by exact fun _ _ h => h) : GdOK F m P w0 ops G ⟨some d, .fieldAddr s x f, ty, pos, aft, none⟩ :=
  ok_pure (fun _ e => by cases e) (fun _ e => by cases e) fun b W hb hh => by
    obtain ⟨a, q, cs, e, h2, h3⟩ := hx _ _ (hh x (by simp [Op.operands]))
    refine ⟨.pointer (some ⟨a, q + k, none⟩), ?_, hd _ _ ⟨_, _, _, rfl, h _ _ h2, h3.drop k⟩⟩
    unfold fieldOff at hk
    split at hk <;> try cases hk
    rename_i fs hu
    split at hk <;> try cases hk
    rename_i f' hf
    split at hk <;> try cases hk
    rename_i i hi
    split at hk <;> try cases hk
    rename_i hz
    simp [execOp, Instr.fieldAt, run_underlying hu, hf, e, Instr.sureAddr, fieldPlace, sizeOf, typeInfo, hi, hz, Addr.add_lit]

/-- How many cells a value of an aggregate type has. -/
def aggSize (P : Program) (t : TypeId) : Option Nat := match P.underlying t with
  | some (.struct _) | some (.array _ _) => (P.info? t).map (·.size)
  | _ => none
def isPlain (P : Program) (t : TypeId) : Bool := match P.underlying t with
  | some (.struct _) | some (.array _ _) | none => false
  | _ => true
theorem run_isAgg_agg {t : TypeId} {k : Nat} (h : aggSize P t = some k) (W : World) : (isAgg t).run P W = .ok true W ∧ ∃ i, P.info? t = some i ∧ i.size = k := by
  unfold aggSize at h
  split at h <;> try cases h
  all_goals
    rename_i hu
    cases hi : P.info? t with
    | none => rw [hi] at h; cases h
    | some i => rw [hi] at h; cases h; exact ⟨by simp [isAgg, run_underlying hu], i, rfl, rfl⟩
theorem run_isAgg_plain' {t : TypeId} (h : isPlain P t = true) (W : World) : (isAgg t).run P W = .ok false W := by
  unfold isPlain at h
  split at h <;> try cases h
  rename_i h1 h2 h3
  cases hu : P.underlying t with
  | none => exact absurd hu h3
  | some d => cases d <;> simp_all [isAgg, run_underlying hu]
theorem run_loadVar_agg {t : TypeId} {k : Nat} (h : aggSize P t = some k) {a q : Nat} {cs : List Value} {W : World} (hc : Mem W a q cs) (hk : k ≤ cs.length) : (loadVar t ⟨a, q, none⟩).run P W = .ok (.agg (cs.take k).toArray) W := by
  obtain ⟨h1, i, hi, hs⟩ := run_isAgg_agg h W
  have h2 := run_loadCells_list (P := P) W ⟨a, q, none⟩ (cs.take k) (fun j v hj => by rw [Addr.add_lit]; exact hc j v (by
    rw [List.getElem?_take] at hj
    split at hj
    · exact hj
    · cases hj))
  rw [List.length_take, Nat.min_eq_left hk] at h2
  simp [loadVar, h1, sizeOf, typeInfo, hi, hs, h2]
theorem run_loadVar_plain {t : TypeId} (h : isPlain P t = true) {a q : Nat} {cs : List Value} {W : World} (hc : Mem W a q cs) {u : Value} (hu : cs[0]? = some u) : (loadVar t ⟨a, q, none⟩).run P W = .ok u W := by
  have h1 := hc 0 u hu
  have h2 : W.cell? ⟨a, q, none⟩ = some u := h1
  simp [loadVar, run_isAgg_plain' h W, h2]

theorem ok_loadA {x : Operand} {t : TypeId} {C : CF} (k : Nat) (hk : aggSize P t = some k) (hx : ∀ v W, (fct G x).p v W → (SF.ptr C).p v W) (h : ∀ cs W, C.p cs W → k ≤ cs.length ∧ (G d).p (.agg (cs.take k).toArray) W) : GdOK F m P w0 ops G ⟨some d, .load t x, ty, pos, aft, none⟩ :=
  ok_pure (fun _ e => by cases e) (fun _ e => by cases e) fun b W hb hh => by
    obtain ⟨a, q, cs, e, h2, h3⟩ := hx _ _ (hh x (by simp [Op.operands]))
    obtain ⟨h4, h5⟩ := h cs W h2
    exact ⟨_, by simp [execOp, Instr.loadAt, e, Instr.sureAddr, run_loadVar_agg hk h3 h4], h5⟩
theorem ok_load1 {x : Operand} {t : TypeId} {C : CF} (hk : isPlain P t = true) (hx : ∀ v W, (fct G x).p v W → (SF.ptr C).p v W) (h : ∀ cs W, C.p cs W → ∃ u, cs[0]? = some u ∧ (G d).p u W) : GdOK F m P w0 ops G ⟨some d, .load t x, ty, pos, aft, none⟩ :=
  ok_pure (fun _ e => by cases e) (fun _ e => by cases e) fun b W hb hh => by
    obtain ⟨a, q, cs, e, h2, h3⟩ := hx _ _ (hh x (by simp [Op.operands]))
    obtain ⟨u, h4, h5⟩ := h cs W h2
    exact ⟨_, by simp [execOp, Instr.loadAt, e, Instr.sureAddr, run_loadVar_plain hk h3 h4], h5⟩

/-- An operation that lays a block. -/
theorem ok_new {op : Op} (hd : ∀ c, op ≠ .defer c) (hc : ∀ c, op ≠ .call c)
    (h : ∀ (b : Act) (W : World), Below w0.heap.size w0 W → (∀ x, x ∈ op.operands.toList → (fct G x).p (b.eval x) W) → ∃ v o, (execOp b.eval ⟨some d, op, ty, pos, aft, none⟩).run P W = .ok (.value v) (W.alloc o) ∧ (G d).p v (W.alloc o)) :
    GdOK F m P w0 ops G ⟨some d, op, ty, pos, aft, none⟩ := by
  intro b W K Q hb hr hK
  obtain ⟨v, o, hrun, hv⟩ := h b W hb fun x hx => fct_holds hr hx
  exact op_value hd hc hrun (hK v _ (fun d' e => by cases e; exact hv) ((Below.refl _ _).alloc (Nat.le_refl _) _))
theorem mem_new (W : World) (cs : Array Value) (t : TypeId) : Mem (W.alloc (.cells cs t)) W.heap.size 0 cs.toList := fun j u hj => by
  have hh : (W.alloc (.cells cs t)).heap[W.heap.size]? = some (.cells cs t) := World.alloc_heap_new W _
  unfold World.cell?
  rw [hh]
  simp only [Nat.zero_add, Option.isSome_none, Bool.false_eq_true, if_false]
  simpa using hj
theorem alloc_b (W : World) (o : Obj) : Below W.heap.size W (W.alloc o) := (Below.refl _ _).alloc (Nat.le_refl _) _
theorem ok_box {x : Operand} {e : TypeId} {C : CF} (h : ∀ v W, (fct G x).p v W → C.p v.cells.toList W) (hd : ∀ v W, (SF.ptr C).p v W → (G d).p v W := by exact fun _ _ h => h) : GdOK F m P w0 ops G ⟨some d, .box e x, ty, pos, aft, none⟩ :=
  ok_new (fun _ e => by cases e) (fun _ e => by cases e) fun b W hb hh => by
    have h1 := h _ _ (hh x (by simp [Op.operands]))
    exact ⟨.pointer (some ⟨W.heap.size, 0, none⟩), .cells (b.eval x).cells e, by simp [execOp, Instr.box, newVar, newRow], hd _ _ ⟨_, _, _, rfl, C.st _ _ _ h1 (alloc_b _ _), mem_new _ _ _⟩⟩
/-- The zero value's cells. -/
def zeroCells (P : Program) (t : TypeId) : Option (List Value) := ((P.info? t).bind (·.zero)).map (·.cells.toList)
/-- A box of the call's own. -/
def SF.own (w0 : World) (t : TypeId) (cs : List Value) : SF := ⟨fun v W => ∃ b, v = .pointer (some ⟨b, 0, none⟩) ∧ w0.heap.size ≤ b ∧ W.heap[b]? = some (.cells cs.toArray t (0, 0)), fun _ _ _ ⟨b, h1, h2, h3⟩ hb => ⟨b, h1, h2, (hb.block b (Array.getElem?_eq_some_iff.1 h3).1).trans h3⟩⟩
theorem ok_alloc {e : TypeId} {cs : List Value} (hz : zeroCells P e = some cs) (hd : ∀ v W, (SF.own w0 e cs).p v W → (G d).p v W := by exact fun _ _ h => h) : GdOK F m P w0 ops G ⟨some d, .alloc e, ty, pos, aft, none⟩ :=
  ok_new (fun _ e => by cases e) (fun _ e => by cases e) fun b W hb hh => by
    unfold zeroCells at hz
    cases hi : P.info? e with
    | none => rw [hi] at hz; cases hz
    | some i =>
      rw [hi] at hz
      simp only [Option.bind_some] at hz
      cases hzz : i.zero with
      | none => rw [hzz] at hz; cases hz
      | some z =>
        rw [hzz] at hz
        simp only [Option.map_some, Option.some.injEq] at hz
        subst hz
        refine ⟨.pointer (some ⟨W.heap.size, 0, none⟩), .cells z.cells e, ?_, hd _ _ ⟨W.heap.size, rfl, hb.size, ?_⟩⟩
        · simp [execOp, Instr.alloc, zeroValue, typeInfo, hi, hzz, newVar, newRow]
        · have := World.alloc_heap_new W (.cells z.cells e)
          simpa using this

/-- Values side by side. -/
def SF.tup2 (A B : SF) : SF := ⟨fun v W => ∃ x y, v = .tuple #[x, y] ∧ A.p x W ∧ B.p y W, fun _ _ _ ⟨x, y, h1, h2, h3⟩ hb => ⟨x, y, h1, A.st _ _ _ h2 hb, B.st _ _ _ h3 hb⟩⟩
def SF.tup3 (A B C : SF) : SF := ⟨fun v W => ∃ x y z, v = .tuple #[x, y, z] ∧ A.p x W ∧ B.p y W ∧ C.p z W, fun _ _ _ ⟨x, y, z, h1, h2, h3, h4⟩ hb => ⟨x, y, z, h1, A.st _ _ _ h2 hb, B.st _ _ _ h3 hb, C.st _ _ _ h4 hb⟩⟩
theorem ok_ext {x : Operand} {i : Nat} (h : ∀ v W, (fct G x).p v W → ∃ vs u, v = .tuple vs ∧ vs[i]? = some u ∧ (G d).p u W) : GdOK F m P w0 ops G ⟨some d, .extract x i, ty, pos, aft, none⟩ :=
  ok_pure (fun _ e => by cases e) (fun _ e => by cases e) fun b W hb hh => by
    obtain ⟨vs, u, e, h1, h2⟩ := h _ _ (hh x (by simp [Op.operands]))
    exact ⟨u, by simp [execOp, Instr.extract, e, h1], h2⟩
theorem ok_ext20 {x : Operand} {A B : SF} (hx : ∀ v W, (fct G x).p v W → (SF.tup2 A B).p v W) (hd : ∀ v W, A.p v W → (G d).p v W := by exact fun _ _ h => h) : GdOK F m P w0 ops G ⟨some d, .extract x 0, ty, pos, aft, none⟩ :=
  ok_ext fun v W h => let ⟨a, _, e, h1, _⟩ := hx v W h; ⟨_, a, e, rfl, hd _ _ h1⟩
theorem ok_ext21 {x : Operand} {A B : SF} (hx : ∀ v W, (fct G x).p v W → (SF.tup2 A B).p v W) (hd : ∀ v W, B.p v W → (G d).p v W := by exact fun _ _ h => h) : GdOK F m P w0 ops G ⟨some d, .extract x 1, ty, pos, aft, none⟩ :=
  ok_ext fun v W h => let ⟨_, b, e, _, h1⟩ := hx v W h; ⟨_, b, e, rfl, hd _ _ h1⟩
theorem ok_ext30 {x : Operand} {A B C : SF} (hx : ∀ v W, (fct G x).p v W → (SF.tup3 A B C).p v W) (hd : ∀ v W, A.p v W → (G d).p v W := by exact fun _ _ h => h) : GdOK F m P w0 ops G ⟨some d, .extract x 0, ty, pos, aft, none⟩ :=
  ok_ext fun v W h => let ⟨a, _, _, e, h1, _⟩ := hx v W h; ⟨_, a, e, rfl, hd _ _ h1⟩
theorem ok_ext31 {x : Operand} {A B C : SF} (hx : ∀ v W, (fct G x).p v W → (SF.tup3 A B C).p v W) (hd : ∀ v W, B.p v W → (G d).p v W := by exact fun _ _ h => h) : GdOK F m P w0 ops G ⟨some d, .extract x 1, ty, pos, aft, none⟩ :=
  ok_ext fun v W h => let ⟨_, b, _, e, _, h1, _⟩ := hx v W h; ⟨_, b, e, rfl, hd _ _ h1⟩
theorem ok_ext32 {x : Operand} {A B C : SF} (hx : ∀ v W, (fct G x).p v W → (SF.tup3 A B C).p v W) (hd : ∀ v W, C.p v W → (G d).p v W := by exact fun _ _ h => h) : GdOK F m P w0 ops G ⟨some d, .extract x 2, ty, pos, aft, none⟩ :=
  ok_ext fun v W h => let ⟨_, _, c, e, _, _, h1⟩ := hx v W h; ⟨_, c, e, rfl, hd _ _ h1⟩

/-- A struct made of parts. -/
theorem ok_build {t : TypeId} {parts : Array (Nat × Operand)} (h : ∀ (b : Act) (W : World), Below w0.heap.size w0 W → (∀ x, x ∈ parts.toList.map (·.2) → (fct G x).p (b.eval x) W) → ∃ cells, P.built t (parts.map fun (i, x) => (i, b.eval x)).toList = some cells ∧ (G d).p (.agg cells) W) : GdOK F m P w0 ops G ⟨some d, .build t parts, ty, pos, aft, none⟩ :=
  ok_pure (fun _ e => by cases e) (fun _ e => by cases e) fun b W hb hh => by
    obtain ⟨cells, h1, h2⟩ := h b W hb fun x hx => hh x (by simpa [Op.operands] using hx)
    exact ⟨_, by simp only [execOp, Sem.run_bind, run_build W t _ cells h1, Result.andThen_ok, Sem.run_pure], h2⟩
theorem ok_build2 {t : TypeId} {i j : Nat} {x y : Operand} (h : ∀ u v W, (fct G x).p u W → (fct G y).p v W → ∃ cells, P.built t [(i, u), (j, v)] = some cells ∧ (G d).p (.agg cells) W) : GdOK F m P w0 ops G ⟨some d, .build t #[(i, x), (j, y)], ty, pos, aft, none⟩ :=
  ok_build fun b W hb hh => by
    obtain ⟨cells, h1, h2⟩ := h _ _ W (hh x (by simp)) (hh y (by simp))
    exact ⟨cells, by simpa using h1, h2⟩
theorem ok_build1 {t : TypeId} {i : Nat} {x : Operand} (h : ∀ u W, (fct G x).p u W → ∃ cells, P.built t [(i, u)] = some cells ∧ (G d).p (.agg cells) W) : GdOK F m P w0 ops G ⟨some d, .build t #[(i, x)], ty, pos, aft, none⟩ :=
  ok_build fun b W hb hh => by
    obtain ⟨cells, h1, h2⟩ := h _ W (hh x (by simp))
    exact ⟨cells, by simpa using h1, h2⟩

/-- A slice's row made of parts. -/
def sliceCells (P : Program) (t : TypeId) (len : Nat) (parts : List (Nat × Value)) : Option (TypeId × Array Value) := match P.underlying t with
  | some (.slice e) => match P.info? e with
    | some ie => match ie.zero with
      | some z => if len * ie.size > 2 ^ 24 ∨ len * ie.size = 0 then none else (Instr.fill (fun i => some (i * ie.size, ie.size)) ((Array.range (len * ie.size)).map (z.cells[· % z.cells.size]!)) parts).map fun cs => (e, cs)
      | none => none
    | none => none
  | _ => none
theorem run_slice_of {t e : TypeId} {len : Nat} {parts : Array (Nat × Value)} {cs : Array Value} (h : sliceCells P t len parts.toList = some (e, cs)) (W : World) : (Instr.buildSlice t len parts).run P W = .ok (.slice (some ⟨W.heap.size, 0, none⟩) len len) (W.alloc (.cells cs e)) := by
  unfold sliceCells at h
  split at h <;> try cases h
  rename_i e' hu
  split at h <;> try cases h
  rename_i ie hi
  split at h <;> try cases h
  rename_i z hz
  split at h <;> try cases h
  rename_i hn
  simp only [Option.map_eq_some_iff] at h
  obtain ⟨cs', h1, h2⟩ := h
  cases h2
  exact run_buildSlice W t _ len parts cs ie z hu hi hz (fun h => hn (.inl h)) (fun h => hn (.inr h)) h1
theorem ok_slice {t : TypeId} {len : Nat} {parts : Array (Nat × Operand)} (h : ∀ (b : Act) (W : World), Below w0.heap.size w0 W → (∀ x, x ∈ parts.toList.map (·.2) → (fct G x).p (b.eval x) W) → ∃ e cs, sliceCells P t len (parts.map fun (i, x) => (i, b.eval x)).toList = some (e, cs) ∧ (G d).p (.slice (some ⟨W.heap.size, 0, none⟩) len len) (W.alloc (.cells cs e))) : GdOK F m P w0 ops G ⟨some d, .buildSlice t len parts, ty, pos, aft, none⟩ :=
  ok_new (fun _ e => by cases e) (fun _ e => by cases e) fun b W hb hh => by
    obtain ⟨e, cs, h1, h2⟩ := h b W hb fun x hx => hh x (by simpa [Op.operands] using hx)
    exact ⟨_, _, by simp only [execOp, Sem.run_bind, run_slice_of h1 W, Result.andThen_ok, Sem.run_pure], h2⟩
theorem ok_slice1 {t : TypeId} {x : Operand} (h : ∀ u W, (fct G x).p u W → ∃ e cs, sliceCells P t 1 [(0, u)] = some (e, cs) ∧ (G d).p (.slice (some ⟨W.heap.size, 0, none⟩) 1 1) (W.alloc (.cells cs e))) : GdOK F m P w0 ops G ⟨some d, .buildSlice t 1 #[(0, x)], ty, pos, aft, none⟩ :=
  ok_slice fun b W hb hh => by
    obtain ⟨e, cs, h1, h2⟩ := h _ W (hh x (by simp))
    exact ⟨e, cs, by simpa using h1, h2⟩
theorem ok_slice2 {t : TypeId} {x y : Operand} (h : ∀ u v W, (fct G x).p u W → (fct G y).p v W → ∃ e cs, sliceCells P t 2 [(0, u), (1, v)] = some (e, cs) ∧ (G d).p (.slice (some ⟨W.heap.size, 0, none⟩) 2 2) (W.alloc (.cells cs e))) : GdOK F m P w0 ops G ⟨some d, .buildSlice t 2 #[(0, x), (1, y)], ty, pos, aft, none⟩ :=
  ok_slice fun b W hb hh => by
    obtain ⟨e, cs, h1, h2⟩ := h _ _ W (hh x (by simp)) (hh y (by simp))
    exact ⟨e, cs, by simpa using h1, h2⟩
theorem ok_slice3 {t : TypeId} {x y z : Operand} (h : ∀ u v q W, (fct G x).p u W → (fct G y).p v W → (fct G z).p q W → ∃ e cs, sliceCells P t 3 [(0, u), (1, v), (2, q)] = some (e, cs) ∧ (G d).p (.slice (some ⟨W.heap.size, 0, none⟩) 3 3) (W.alloc (.cells cs e))) : GdOK F m P w0 ops G ⟨some d, .buildSlice t 3 #[(0, x), (1, y), (2, z)], ty, pos, aft, none⟩ :=
  ok_slice fun b W hb hh => by
    obtain ⟨e, cs, h1, h2⟩ := h _ _ _ W (hh x (by simp)) (hh y (by simp)) (hh z (by simp))
    exact ⟨e, cs, by simpa using h1, h2⟩

/-- A call's answer: a value with this fact. -/
def Ret (W : World) (f : SF) : Ending → World → Prop := fun e W' => ∃ v, e = .returned v ∧ f.p v W' ∧ Below W.heap.size W W'
/-- A fence that lets every call. -/
def Wide (F : Fence) (m : Nat) (P : Program) : Prop := (∀ f, F.fn f) ∧ (F.depth.isSome = true → 1 ≤ m) ∧ ∀ f args w R, Calls P f args w R → CallsIn F (m - 1) P f args w R
theorem wide_wide : Wide Fence.wide m P := ⟨fun _ => trivial, fun h => (by cases h), fun _ _ _ _ h => callsIn_wide.2 h⟩
theorem wide_round {l : Nat} : Wide (Fence.wide.inRound l) m P := ⟨fun _ => trivial, fun h => (by cases h), fun _ _ _ _ h => callsIn_wide.2 h⟩

theorem ok_callN {f : FuncId} {xs : Array Operand} {ats : Array TypeId} (hF : Wide F m P) (he : Enters P f)
    (h : ∀ (b : Act) (W : World), Below w0.heap.size w0 W → (∀ x, x ∈ xs.toList → (fct G x).p (b.eval x) W) → Calls P f (xs.map b.eval) W (Ret W (G d))) :
    GdOK F m P w0 ops G ⟨some d, .call ⟨.value (.func f), xs, ats⟩, ty, pos, aft, none⟩ := by
  intro b W K Q hb hr hK
  have h1 := h b W hb fun x hx => fct_holds hr (x := x) (by simp [Op.operands, Call.operands]; right; simpa using hx)
  refine ⟨fun g _ => hF.1 g, ?_⟩
  rw [Oper.semAt_eq _ _ _ (fun _ e => by cases e), execOp_call_go]
  rw [he]
  simp only [Oper.uponIn_enter]
  refine ⟨hF.2.1, CallsIn.mono (hF.2.2 _ _ _ (Ret W (G d)) ?_) fun e W' he => ?_⟩
  · simpa using h1
  · obtain ⟨v, rfl, hv, hb'⟩ := he
    exact hK v W' (fun d' e => by cases e; exact hv) hb'
theorem ok_call0 {f : FuncId} {ats : Array TypeId} (hF : Wide F m P) (he : Enters P f) (h : ∀ W, Below w0.heap.size w0 W → Calls P f #[] W (Ret W (G d))) : GdOK F m P w0 ops G ⟨some d, .call ⟨.value (.func f), #[], ats⟩, ty, pos, aft, none⟩ :=
  ok_callN hF he fun b W hb _ => by simpa using h W hb
theorem ok_call1 {f : FuncId} {x : Operand} {ats : Array TypeId} (hF : Wide F m P) (he : Enters P f) (h : ∀ u W, Below w0.heap.size w0 W → (fct G x).p u W → Calls P f #[u] W (Ret W (G d))) : GdOK F m P w0 ops G ⟨some d, .call ⟨.value (.func f), #[x], ats⟩, ty, pos, aft, none⟩ :=
  ok_callN hF he fun b W hb hh => by simpa using h _ W hb (hh x (by simp))
theorem ok_call2 {f : FuncId} {x y : Operand} {ats : Array TypeId} (hF : Wide F m P) (he : Enters P f) (h : ∀ u v W, Below w0.heap.size w0 W → (fct G x).p u W → (fct G y).p v W → Calls P f #[u, v] W (Ret W (G d))) : GdOK F m P w0 ops G ⟨some d, .call ⟨.value (.func f), #[x, y], ats⟩, ty, pos, aft, none⟩ :=
  ok_callN hF he fun b W hb hh => by simpa using h _ _ W hb (hh x (by simp)) (hh y (by simp))
theorem ok_call3 {f : FuncId} {x y z : Operand} {ats : Array TypeId} (hF : Wide F m P) (he : Enters P f) (h : ∀ u v q W, Below w0.heap.size w0 W → (fct G x).p u W → (fct G y).p v W → (fct G z).p q W → Calls P f #[u, v, q] W (Ret W (G d))) : GdOK F m P w0 ops G ⟨some d, .call ⟨.value (.func f), #[x, y, z], ats⟩, ty, pos, aft, none⟩ :=
  ok_callN hF he fun b W hb hh => by simpa using h _ _ _ W hb (hh x (by simp)) (hh y (by simp)) (hh z (by simp))

/-- A guarded operation. -/
theorem ok_guard {op : Op} {j : Nat} {want : Bool} (g : Nat) (bv : Bool) (hj : dstAt ops j = some g) (hg : ∀ v W, (G g).p v W → v = .bool bv) (h1 : bv = want → GdOK F m P w0 ops G ⟨some d, op, ty, pos, aft, none⟩) (h2 : bv ≠ want → ∀ W, (G d).p undef W)
    (h3 : bv ≠ want → ∀ W ρ, (⟨some d, op, ty, pos, aft, none⟩ : Oper).about P W ρ = none := by exact fun _ _ _ => rfl) : GdOK F m P w0 ops G ⟨some d, op, ty, pos, aft, some (j, want)⟩ :=
  ⟨g, bv, hj, hg, h1, fun e => ⟨fun d' hd W => by cases hd; exact h2 e W, h3 e⟩⟩

theorem ok_pick {c x y : Operand} (bv : Bool) (hc : ∀ v W, (fct G c).p v W → v = .bool bv) (h1 : bv = true → ∀ v W, (fct G x).p v W → (G d).p v W) (h2 : bv = false → ∀ v W, (fct G y).p v W → (G d).p v W) : GdOK F m P w0 ops G ⟨some d, .pick c x y, ty, pos, aft, none⟩ :=
  ok_pure (fun _ e => by cases e) (fun _ e => by cases e) fun b W hb hh => by
    have e := hc _ _ (hh c (by simp [Op.operands]))
    cases bv with
    | true => exact ⟨_, by simp [execOp, e, asBool], h1 rfl _ _ (hh x (by simp [Op.operands]))⟩
    | false => exact ⟨_, by simp [execOp, e, asBool], h2 rfl _ _ (hh y (by simp [Op.operands]))⟩
theorem ok_not {x : Operand} {t : TypeId} (bv : Bool) (hx : ∀ v W, (fct G x).p v W → v = .bool bv) (hd : ∀ W, (G d).p (.bool (!bv)) W) : GdOK F m P w0 ops G ⟨some d, .unOp .not t x, ty, pos, aft, none⟩ :=
  ok_pure (fun _ e => by cases e) (fun _ e => by cases e) fun b W hb hh => by
    have e := hx _ _ (hh x (by simp [Op.operands]))
    exact ⟨_, by simp [execOp, e, Op.unary], hd W⟩
/-- An operation on two values that are known, by its run. -/
theorem ok_bin {op : BinOp} {t : TypeId} {x y : Operand} {t' : TypeId} (u v r : Value) (hx : ∀ q W, (fct G x).p q W → q = u) (hy : ∀ q W, (fct G y).p q W → q = v) (hg : ∀ W, (eqGuard op t x y u v).run P W = .ok () W) (hr : ∀ W, (binOp op t u v).run P W = .ok r W) (hd : ∀ W, (G d).p r W) : GdOK F m P w0 ops G ⟨some d, .binOp op t x y t', ty, pos, aft, none⟩ :=
  ok_pure (fun _ e => by cases e) (fun _ e => by cases e) fun b W hb hh => by
    have e1 := hx _ _ (hh x (by simp [Op.operands]))
    have e2 := hy _ _ (hh y (by simp [Op.operands]))
    exact ⟨r, by simp [execOp, e1, e2, hg, hr], hd W⟩
end
end Go.Proofs.Wd

namespace Go.Proofs.Wd
open Go.RowKit

def nilG : Nat → SF := fun _ => SF.any
def argL : Nat → List SF → List (Nat × SF)
  | _, [] => []
  | k, f :: l => (k, f) :: argL (k + 1) l
def ArgsOK (w : World) : List SF → List Value → Prop
  | [], _ => True
  | f :: l, v :: vs => f.p v w ∧ ArgsOK w l vs
  | _ :: _, [] => False
theorem args_ok {w : World} : ∀ (l : List SF) (vs : List Value) (k t : Nat), ArgsOK w l vs → ∀ u, (∀ j, k + j = t → u = vs.getD j undef) → (upd nilG (argL k l) t).p u w
  | [], _, _, _, _, _, _ => trivial
  | f :: l, [], _, _, h, _, _ => h.elim
  | f :: l, v :: vs, k, t, h, u, hu => by
    show (bif Nat.beq k t then f else upd nilG (argL (k + 1) l) t).p u w
    cases e : Nat.beq k t with
    | true =>
      have := Nat.eq_of_beq_eq_true e
      rw [hu 0 (by omega)]
      exact h.1
    | false =>
      refine args_ok l vs (k + 1) t h.2 u fun j hj => ?_
      rw [hu (j + 1) (by omega)]
      rfl

/-- A fact on limbs alone: a store of other cells leaves it as well. -/
structure UF extends SF where
  us : ∀ v w w', p v w → (∀ q x, w.cell? q = some (.int .u32 x) → w'.cell? q = some (.int .u32 x)) → p v w'

/-- A function's contract, out of its body's walk. -/
theorem run_fn {P : Program} {f : FuncId} {fn : Func} {c : Code} {args : Array Value} {w : World} {R : Ending → World → Prop} (l : List SF)
    (hf : P.funcs[f]? = some fn) (hb : fn.body = some c) (hn : Nat.ble args.size fn.ntmps = true) (hA : ArgsOK w l args.toList)
    (h : ∀ a, At w (upd nilG (argL 0 l)) fn.ntmps a w → c.wpIn Fence.wide 0 P (bodyPost P fn R) a w) : Calls P f args w R := by
  have hn := Nat.le_of_ble_eq_true hn
  refine calls_in hf hb (h _ ⟨Below.refl _ _, by simp; omega, rfl, fun t => ?_⟩)
  by_cases ht : t < args.toList.length
  · refine args_ok l _ 0 t hA _ fun j hj => ?_
    obtain rfl : j = t := by omega
    have ht' : j < args.size := by simpa using ht
    simp [Array.getElem?_append, ht', List.getD]
  · have : ∀ (l : List SF) (vs : List Value) (k : Nat), ArgsOK w l vs → k + vs.length ≤ t → upd nilG (argL k l) t = SF.any := by
      intro l
      induction l with
      | nil => intro vs k _ _; rfl
      | cons f l ih =>
        intro vs k h hk
        cases vs with
        | nil => exact h.elim
        | cons v vs =>
          simp only [List.length_cons] at hk
          have hne : Nat.beq k t = false := by
            cases e : Nat.beq k t with
            | false => rfl
            | true => have := Nat.eq_of_beq_eq_true e; omega
          show (bif Nat.beq k t then f else upd nilG (argL (k + 1) l) t) = _
          rw [hne]
          exact ih vs (k + 1) h.2 (by omega)
    rw [this l args.toList 0 hA (by omega)]
    trivial

section
variable {F : Fence} {m : Nat} {P : Program} {Q : Exit → Act → World → Prop} {w0 : World} {G : Nat → SF} {n : Nat} {a : Act} {w : World}

theorem At.weak (h : At w0 G n a w) {G' : Nat → SF} (hg : ∀ t v, (G t).p v w → (G' t).p v w) : At w0 G' n a w := ⟨h.gr, h.size, h.nd, fun t => hg t _ (h.sl t)⟩
/-- The facts from here on are counted from the present world. -/
theorem At.base (h : At w0 G n a w) : At w G n a w := ⟨Below.refl _ _, h.size, h.nd, h.sl⟩
theorem At.slot (h : At w0 G n a w) (t : Nat) : (G t).p (a.tmps.getD t undef) w := h.sl t
theorem At.from (h : At w0 G n a w) {w' : World} (hb : Below w'.heap.size w' w0) : At w' G n a w := ⟨hb.trans (h.gr.mono hb.size), h.size, h.nd, h.sl⟩
/-- Only some slots' facts are kept. -/
theorem At.only (h : At w0 G n a w) (L : List (Nat × SF)) (hL : ∀ p, p ∈ L → ∀ v W, (G p.1).p v W → p.2.p v W) : At w0 (upd nilG L) n a w := by
  refine h.weak fun t v hv => ?_
  have : ∀ (l : List (Nat × SF)), (∀ p, p ∈ l → ∀ v W, (G p.1).p v W → p.2.p v W) → (upd nilG l t).p v w := by
    intro l
    induction l with
    | nil => intro _; trivial
    | cons q l ih =>
      intro hl
      show (bif Nat.beq q.1 t then q.2 else upd nilG l t).p v w
      cases e : Nat.beq q.1 t with
      | true =>
        have := Nat.eq_of_beq_eq_true e
        exact hl q (by simp) v w (by rw [this]; exact hv)
      | false => exact ih fun p hp => hl p (by simp [hp])
  exact this L hL

theorem cond_run {c : Operand} {x y : Code} (bv : Bool) (h : At w0 G n a w) (hc : ∀ v W, (fct G c).p v W → v = .bool bv) (ht : bv = true → x.wpIn F m P Q a w) (hf : bv = false → y.wpIn F m P Q a w) : (Code.cond c x y).wpIn F m P Q a w := by
  have hh : (fct G c).p (a.eval c) w := by
    cases c with
    | tmp t => exact h.sl t
    | const v => rfl
    | func f => rfl
    | global g => rfl
  exact wpIn_cond_split (hc _ _ hh) ht hf

/-- The present facts are the answer. -/
theorem rtn1 {fn : Func} {f : SF} {r : Nat} (hr : fn.results = #[.tmp r]) (h : At w0 G n a w) (hd : ∀ v W, (G r).p v W → f.p v W := by exact fun _ _ h => h) : bodyPost P fn (Ret w0 f) .ret a w := by
  refine ⟨h.nd, _, ?_, ⟨_, rfl, hd _ _ (h.sl r), h.gr⟩⟩
  simp [results, hr]
theorem rtn2 {fn : Func} {f : SF} {r s : Nat} (hr : fn.results = #[.tmp r, .tmp s]) (h : At w0 G n a w) (hd : ∀ u v W, (G r).p u W → (G s).p v W → f.p (.tuple #[u, v]) W) : bodyPost P fn (Ret w0 f) .ret a w := by
  refine ⟨h.nd, _, ?_, ⟨_, rfl, hd _ _ _ (h.sl r) (h.sl s), h.gr⟩⟩
  simp [results, hr]
theorem rtn3 {fn : Func} {f : SF} {r s q : Nat} (hr : fn.results = #[.tmp r, .tmp s, .tmp q]) (h : At w0 G n a w) (hd : ∀ u v x W, (G r).p u W → (G s).p v W → (G q).p x W → f.p (.tuple #[u, v, x]) W) : bodyPost P fn (Ret w0 f) .ret a w := by
  refine ⟨h.nd, _, ?_, ⟨_, rfl, hd _ _ _ _ (h.sl r) (h.sl s) (h.sl q), h.gr⟩⟩
  simp [results, hr]
theorem rtn0 {fn : Func} {f : SF} (hr : fn.results = #[]) (h : At w0 G n a w) (hd : ∀ W, f.p (.tuple #[]) W) : bodyPost P fn (Ret w0 f) .ret a w := by
  refine ⟨h.nd, _, ?_, ⟨_, rfl, hd _, h.gr⟩⟩
  simp [results, hr]
theorem wp_ret' (h : Q .ret a w) : Code.ret.wpIn F m P Q a w := wpIn_ret h

/-- A loop whose rounds are counted. -/
theorem loop_k {c : Code} (N : Nat) (i : Nat) (Gf : Nat → Nat → SF) (hi : ∀ k v W, (Gf k i).p v W → v = .int .i64 (k : Int)) (h0 : At w0 (Gf 0) n a w)
    (round : ∀ k a w, k ≤ N → At w0 (Gf k) n a w → c.wpIn F m P (Exit.then (fun a' w' => k < N ∧ At w0 (Gf (k + 1)) n a' w') Q) a w) : (Code.loop c).wpIn F m P Q a w := by
  refine wpIn_loop (fun a w => ∃ k, k ≤ N ∧ At w0 (Gf k) n a w) (fun a _ => N + 1 - (match a.tmps.getD i undef with | .int _ z => z.toNat | _ => 0)) ⟨0, Nat.zero_le _, h0⟩ ?_
  rintro a w ⟨k, hk, hA⟩
  refine Code.wpIn_mono ?_ (round k a w hk hA)
  intro e a' w' h
  cases e with
  | normal =>
    obtain ⟨h1, h2⟩ : k < N ∧ At w0 (Gf (k + 1)) n a' w' := h
    refine ⟨⟨k + 1, h1, h2⟩, ?_⟩
    have e1 := hi _ _ _ (hA.sl i)
    have e2 := hi _ _ _ (h2.sl i)
    simp only [e1, e2, Int.toNat_natCast]
    have h3 : N + 1 - (k + 1) < N + 1 - k := by omega
    exact h3
  | _ => exact h

/-- What a store of cells that are no limbs leaves as it was: every limb. -/
def KeepU (w w' : World) : Prop := ∀ p x, w.cell? p = some (.int .u32 x) → w'.cell? p = some (.int .u32 x)
theorem KeepU.trans {u v w : World} (h : KeepU u v) (k : KeepU v w) : KeepU u w := fun p x hp => k p x (h p x hp)
theorem Rd.keepU {w w' : World} {A : Option Addr} {n c : Nat} {l : List Nat} (h : Rd w A n c l) (hk : KeepU w w') : Rd w' A n c l :=
  ⟨h.len, h.le, h.cap, h.nil, fun i hi => let ⟨b, o, e, hc⟩ := h.cells i hi; ⟨b, o, e, hk _ _ hc⟩⟩

/-- No limb. -/
def noLimb : Value → Bool
  | .int .u32 _ => false
  | _ => true
theorem setRow_keepU {b : Nat} {t : TypeId} {cs vs : Array Value} (hb : w.heap[b]? = some (.cells cs t (0, 0))) (hn : cs.all noLimb = true) : KeepU w (w.setRow b vs) := fun p x hp => by
  rw [cell_setRow_other]
  · exact hp
  · intro e
    have h1 : w.cell? p = if p.spot.isSome then none else cs[p.off]? := by
      unfold World.cell?
      rw [e, hb]
    rw [h1] at hp
    split at hp
    · cases hp
    · have := Array.all_eq_true_iff_forall_mem.1 hn _ (Array.mem_of_getElem? hp)
      cases this
theorem run_store_own {b : Nat} {t : TypeId} {k : Nat} (hsz : aggSize P t = some k) {cs vs : List Value} (hl : vs.length = k) (hc : cs.length = k) (h1 : ∀ u, u ∈ vs → u.oneCell' = true) (hb : w.heap[b]? = some (.cells cs.toArray t (0, 0))) :
    (storeVar t ⟨b, 0, none⟩ (.agg vs.toArray)).run P w = .ok () (w.setRow b vs.toArray) := by
  obtain ⟨_, i, hi, his⟩ := run_isAgg_agg hsz w
  have := run_storeCells_from (P := P) b t vs 0 cs.toArray w hb (by simp; omega) h1
  simp only [List.take_zero, List.nil_append] at this
  simp [storeVar, sizeOf, typeInfo, hi, his, Value.cells, hl, this]

/-- The value of an operand that is a struct. -/
def aggOK (k : Nat) (v : Value) : Prop := ∃ vs : List Value, v = .agg vs.toArray ∧ vs.length = k ∧ ∀ u, u ∈ vs → u.oneCell' = true
theorem op_store {t : TypeId} {k : Nat} {c : Nat} {x : Operand} {ty : TypeId} {pos : String} {aft : Array Edge} {K : Act → World → Prop} {te : TypeId} {cs : List Value} (hsz : aggSize P t = some k) (hte : te = t) (hc : cs.length = k)
    {b : Nat} {vs : List Value} (hp : a.tmps.getD c undef = .pointer (some ⟨b, 0, none⟩)) (hb : w.heap[b]? = some (.cells cs.toArray te (0, 0))) (hx : a.eval x = .agg vs.toArray) (hl : vs.length = k) (h1 : ∀ u, u ∈ vs → u.oneCell' = true)
    (hK : K a (w.setRow b vs.toArray)) : (⟨none, .store t (.tmp c) x, ty, pos, aft, none⟩ : Oper).wpIn F m P a w K Q := by
  subst hte
  refine ⟨fun f hf => (by cases hf), ?_⟩
  rw [Oper.semAt_eq _ _ _ (fun _ e => by cases e)]
  have : (execOp a.eval ⟨none, .store te (.tmp c) x, ty, pos, aft, none⟩).run P w = .ok .skip (w.setRow b vs.toArray) := by
    have hp' : a.eval (.tmp c) = .pointer (some ⟨b, 0, none⟩) := hp
    simp [execOp, hp', hx, Instr.storeAt, Instr.sureAddr, run_store_own hsz hl hc h1 hb]
  rw [this]
  exact hK

/-- The last operation stores a struct into a box of the call's own. -/
theorem tail_store {ops : Array Oper} {k : Nat} (hk : ops.size = k + 1) {t te : TypeId} {kk : Nat} {c : Nat} {x : Operand} {ty : TypeId} {pos : String} {aft : Array Edge} (ho : ops[k]? = some ⟨none, .store t (.tmp c) x, ty, pos, aft, none⟩)
    (hsz : aggSize P t = some kk) {cs : List Value} (hcl : cs.length = kk) (h : At w0 G n a w) (hte : te = t) (hc : ∀ v W, (G c).p v W → (SF.own w0 te cs).p v W) (hv : ∀ v W, (fct G x).p v W → aggOK kk v)
    (fin : ∀ (b : Nat) (vs : List Value), w.heap[b]? = some (.cells cs.toArray te (0, 0)) → a.tmps.getD c undef = .pointer (some ⟨b, 0, none⟩) → w0.heap.size ≤ b → vs.length = kk → (fct G x).p (.agg vs.toArray) w → Q .normal a (w.setRow b vs.toArray)) :
    wpOpsIn F m P ops Q (List.range' k (ops.size - k)) a w := by
  rw [show ops.size - k = 0 + 1 from by omega, List.range'_succ, wpOpsIn_cons]
  unfold wpOpIn
  rw [ho]
  have hh : (fct G x).p (a.eval x) w := by
    cases x with
    | tmp t => exact h.sl t
    | const v => rfl
    | func f => rfl
    | global g => rfl
  obtain ⟨vs, e, hl, h1⟩ := hv _ _ hh
  obtain ⟨b, hp, hbb, hb⟩ := hc _ _ (h.sl c)
  rw [e] at hh
  exact op_store hsz hte hcl hp hb e hl h1 (fin b vs hb hp hbb hl hh)

theorem below_row_ {w0 w : World} {b : Nat} {vs : Array Value} (h : Below w0.heap.size w0 w) (hb : w0.heap.size ≤ b) : Below w0.heap.size w0 (w.setRow b vs) :=
  ⟨h.os, h.tape, h.output, by rw [size_setRow]; exact h.size, fun k hk => (setRow_other w b k vs (by omega)).trans (h.block k hk)⟩
theorem below_row {b : Nat} {vs : Array Value} (h : Below w0.heap.size w0 w) (hb : w0.heap.size ≤ b) : Below w0.heap.size w0 (w.setRow b vs) := below_row_ h hb
theorem run_cell {t : TypeId} {k : Nat} (hsz : aggSize P t = some k) {b : Nat} {te : TypeId} {vs : List Value} (hl : vs.length = k) (hb : w.heap[b]? = some (.cells vs.toArray te (0, 0))) : (loadVar t ⟨b, 0, none⟩).run P w = .ok (.agg vs.toArray) w := by
  have hm : Mem w b 0 vs := fun j u hj => by
    unfold World.cell?
    rw [hb]
    simpa using hj
  have := run_loadVar_agg hsz hm (by omega)
  rwa [List.take_of_length_le (by omega)] at this

/-- The last operation stores the answer into its cell. -/
theorem tail_ret {ops : Array Oper} {k : Nat} (hk : ops.size = k + 1) {fn : Func} {f : UF} {t te : TypeId} {kk : Nat} {c : Nat} {x : Operand} {ty : TypeId} {pos : String} {aft : Array Edge} (ho : ops[k]? = some ⟨none, .store t (.tmp c) x, ty, pos, aft, none⟩)
    (hr : fn.results = #[.cell c te]) (hte : te = t) (hsz : aggSize P t = some kk) {cs : List Value} (hcl : cs.length = kk) (hn : cs.all noLimb = true) (h : At w0 G n a w) (hc : ∀ v W, (G c).p v W → (SF.own w0 te cs).p v W)
    (hv : ∀ v W, (fct G x).p v W → aggOK kk v) (hf : ∀ v W, (fct G x).p v W → f.p v W) (fin : ∀ w', bodyPost P fn (Ret w0 f.toSF) .ret a w' → Q .normal a w') :
    wpOpsIn F m P ops Q (List.range' k (ops.size - k)) a w := by
  refine tail_store hk ho hsz hcl h hte hc hv fun b vs hb hp hbb hl hx => fin _ ?_
  subst hte
  have hb2 := setRow_heap w b cs.toArray vs.toArray te (0, 0) hb
  refine ⟨h.nd, .agg vs.toArray, ?_, ⟨_, rfl, f.us _ _ _ (hf _ _ hx) (setRow_keepU hb (by simpa using hn)), below_row h.gr hbb⟩⟩
  have hp' : a.tmps[c]?.getD undef = .pointer (some ⟨b, 0, none⟩) := by rw [← Array.getD_eq_getD_getElem?]; exact hp
  simp [results, hr, asAddr, hp', run_cell hsz hl hb2]
/-- The same, and behind it another result is set. -/
theorem tail_ret2 {ops : Array Oper} {k : Nat} (hk : ops.size = k + 2) {fn : Func} {f : UF} {t te : TypeId} {kk : Nat} {c r : Nat} {x y : Operand} {ty ty' : TypeId} {pos pos' : String} {aft aft' : Array Edge} (ho : ops[k]? = some ⟨none, .store t (.tmp c) x, ty, pos, aft, none⟩) (ho' : ops[k + 1]? = some ⟨some r, .assign y, ty', pos', aft', none⟩)
    (hr : fn.results = #[.cell c te, .tmp r]) (hte : te = t) (hrc : r ≠ c) (hrn : r < n) (hsz : aggSize P t = some kk) {cs : List Value} (hcl : cs.length = kk) (hn : cs.all noLimb = true) (h : At w0 G n a w) (hc : ∀ v W, (G c).p v W → (SF.own w0 te cs).p v W)
    (hv : ∀ v W, (fct G x).p v W → aggOK kk v) (hf : ∀ v u W, (fct G x).p v W → (fct G y).p u W → f.p (.tuple #[v, u]) W) (fin : ∀ a w', bodyPost P fn (Ret w0 f.toSF) .ret a w' → Q .normal a w') :
    wpOpsIn F m P ops Q (List.range' k (ops.size - k)) a w := by
  rw [show ops.size - k = 0 + 1 + 1 from by omega, List.range'_succ, wpOpsIn_cons]
  unfold wpOpIn
  rw [ho]
  have hh : ∀ x : Operand, (fct G x).p (a.eval x) w := fun x => by
    cases x with
    | tmp t => exact h.sl t
    | const v => rfl
    | func f => rfl
    | global g => rfl
  have hx := hh x
  obtain ⟨vs, e, hl, h1⟩ := hv _ _ hx
  obtain ⟨b, hp, hbb, hb⟩ := hc _ _ (h.sl c)
  rw [e] at hx
  refine op_store hsz hte hcl hp hb e hl h1 ?_
  rw [List.range'_succ, wpOpsIn_cons]
  unfold wpOpIn
  rw [ho']
  refine op_value (fun _ e => by cases e) (fun _ e => by cases e) (W' := w.setRow b vs.toArray) (v := a.eval y) rfl (fin _ _ ?_)
  subst hte
  have hb2 := setRow_heap w b cs.toArray vs.toArray te (0, 0) hb
  refine ⟨h.nd, .tuple #[.agg vs.toArray, a.eval y], ?_, ⟨_, rfl, f.us _ _ _ (hf _ _ _ hx (hh y)) (setRow_keepU hb (by simpa using hn)), below_row h.gr hbb⟩⟩
  have hp1 : (a.put (some r) (a.eval y)).tmps.getD c undef = .pointer (some ⟨b, 0, none⟩) := by
    show (a.tmps.setIfInBounds r _).getD c undef = _
    rw [getD_setv hrc]
    exact hp
  have hp2 : (a.put (some r) (a.eval y)).tmps.getD r undef = a.eval y := by
    show (a.tmps.setIfInBounds r _).getD r undef = _
    rw [Array.getD_eq_getD_getElem?, Array.getElem?_setIfInBounds_self_of_lt (by rw [h.size]; exact hrn)]
    rfl
  rw [Array.getD_eq_getD_getElem?] at hp1 hp2
  simp [results, hr, asAddr, hp1, hp2, run_cell hsz hl hb2]
end
end Go.Proofs.Wd

namespace Go.Proofs.Wd
open Go.RowKit

theorem keepU_below {w w' : World} (hb : Below w.heap.size w w') : KeepU w w' := fun q x hq => (hb.cell (p := q) (World.block_lt_of_cell? w _ hq)).trans hq
/-- A fact on limbs alone, made of what a store of other cells leaves. -/
def UF.mk' (p : Value → World → Prop) (us : ∀ v w w', p v w → KeepU w w' → p v w') : UF := ⟨⟨p, fun v w w' h hb => us v w w' h (keepU_below hb)⟩, us⟩
def UF.any : UF := .mk' (fun _ _ => True) fun _ _ _ _ _ => trivial
def UF.eq (u : Value) : UF := .mk' (fun v _ => v = u) fun _ _ _ h _ => h
/-- A kept fact: one on limbs alone, or one that was known when the function began. -/
inductive KF where
  | u (f : UF)
  | o (f : SF)
def KF.sf : KF → SF
  | .u f => f.toSF
  | .o f => f
def KF.p (w0 : World) : KF → Value → World → Prop
  | .u f, v, w => f.p v w
  | .o f, v, _ => f.p v w0
theorem KF.us {w0 : World} {k : KF} {v : Value} {w w' : World} (h : k.p w0 v w) (hk : KeepU w w') : k.p w0 v w' := by
  cases k with
  | u f => exact f.us _ _ _ h hk
  | o f => exact h
theorem KF.now {w0 : World} {k : KF} {v : Value} {w : World} (h : k.p w0 v w) (hb : Below w0.heap.size w0 w) : k.sf.p v w := by
  cases k with
  | u f => exact h
  | o f => exact f.st _ _ _ h hb
/-- A fact on a box's cells, on limbs alone. -/
structure CU where
  p : List Value → World → Prop
  us : ∀ cs w w', p cs w → KeepU w w' → p cs w'
def CU.cf (C : CU) : CF := ⟨C.p, fun cs w w' h hb => C.us cs w w' h (keepU_below hb)⟩
/-- The cells of one value that is a struct. -/
def CU.agg (f : UF) : CU := ⟨fun cs w => f.p (.agg cs.toArray) w, fun _ _ _ h k => f.us _ _ _ h k⟩
/-- So many cells. -/
def CU.len (k : Nat) : CU := ⟨fun cs _ => cs.length = k, fun _ _ _ h _ => h⟩
def CU.any : CU := ⟨fun _ _ => True, fun _ _ _ _ _ => trivial⟩

/-- A box: its slot, its type, what is known of its cells. -/
structure Bx where
  t : Nat
  e : TypeId
  c : CU

/-- The boxes, each a block of its own. -/
def Boxes (w0 : World) (a : Act) (w : World) : List Bx → Prop
  | [] => True
  | x :: B => (∃ (b : Nat) (cs : List Value), a.tmps.getD x.t undef = .pointer (some ⟨b, 0, none⟩) ∧ w0.heap.size ≤ b ∧ w.heap[b]? = some (.cells cs.toArray x.e (0, 0)) ∧ x.c.p cs w ∧ cs.all noLimb = true ∧ ∀ y, y ∈ B → a.tmps.getD y.t undef ≠ .pointer (some ⟨b, 0, none⟩)) ∧ Boxes w0 a w B

structure St (w0 : World) (K : List (Nat × KF)) (B : List Bx) (n : Nat) (a : Act) (w : World) : Prop where
  gr : Below w0.heap.size w0 w
  size : a.tmps.size = n
  nd : a.defers = []
  sl : ∀ q, q ∈ K → q.2.p w0 (a.tmps.getD q.1 undef) w
  bx : Boxes w0 a w B

/-- A row of the table: a fact that is kept, or one for this statement alone. -/
inductive Rw where
  | u (f : UF)
  | s (f : SF)
def Rw.sf : Rw → SF
  | .u f => f.toSF
  | .s f => f
def rowsOf (L : List (Nat × Rw)) : List (Nat × SF) := L.map fun q => (q.1, q.2.sf)
def keepOf : List (Nat × Rw) → List (Nat × KF)
  | [] => []
  | (t, .u f) :: l => (t, .u f) :: keepOf l
  | (_, .s _) :: l => keepOf l
/-- The table that a state gives. -/
def envK : List (Nat × KF) → List (Nat × SF)
  | [] => []
  | q :: l => (q.1, q.2.sf) :: envK l
def envB : List Bx → List (Nat × SF)
  | [] => []
  | x :: l => (x.t, SF.ptr x.c.cf) :: envB l
def envS (K : List (Nat × KF)) (B : List Bx) : Nat → SF := upd (upd nilG (envK K)) (envB B)

theorem upd_holds {a : Act} {w : World} {G : Nat → SF} (hG : ∀ t, (G t).p (a.tmps.getD t undef) w) : ∀ (l : List (Nat × SF)), (∀ q, q ∈ l → q.2.p (a.tmps.getD q.1 undef) w) → ∀ t, (upd G l t).p (a.tmps.getD t undef) w
  | [], _, t => hG t
  | q :: l, h, t => by
    show (bif Nat.beq q.1 t then q.2 else upd G l t).p (a.tmps.getD t undef) w
    cases e : Nat.beq q.1 t with
    | true =>
      have := Nat.eq_of_beq_eq_true e
      rw [← this]
      exact h q (by simp)
    | false => exact upd_holds hG l (fun p hp => h p (by simp [hp])) t
theorem mem_envK {q : Nat × SF} : ∀ {l : List (Nat × KF)}, q ∈ envK l → ∃ p, p ∈ l ∧ q = (p.1, p.2.sf)
  | [], h => by cases h
  | p :: l, h => by
    rcases List.mem_cons.1 h with rfl | h
    · exact ⟨p, by simp, rfl⟩
    · obtain ⟨r, h1, h2⟩ := mem_envK h
      exact ⟨r, by simp [h1], h2⟩
theorem mem_envB {q : Nat × SF} : ∀ {l : List Bx}, q ∈ envB l → ∃ p, p ∈ l ∧ q = (p.t, SF.ptr p.c.cf)
  | [], h => by cases h
  | p :: l, h => by
    rcases List.mem_cons.1 h with rfl | h
    · exact ⟨p, by simp, rfl⟩
    · obtain ⟨r, h1, h2⟩ := mem_envB h
      exact ⟨r, by simp [h1], h2⟩
theorem mem_keepOf {q : Nat × KF} : ∀ {l : List (Nat × Rw)}, q ∈ keepOf l → ∃ f, q.2 = .u f ∧ (q.1, Rw.u f) ∈ l
  | [], h => by cases h
  | (t, .u f) :: l, h => by
    rcases List.mem_cons.1 h with rfl | h
    · exact ⟨f, rfl, by simp⟩
    · obtain ⟨g, h1, h2⟩ := mem_keepOf h
      exact ⟨g, h1, by simp [h2]⟩
  | (_, .s _) :: l, h => by
    obtain ⟨g, h1, h2⟩ := mem_keepOf (l := l) h
    exact ⟨g, h1, by simp [h2]⟩
theorem Boxes.mem {w0 : World} {a : Act} {w : World} : ∀ {B : List Bx}, Boxes w0 a w B → ∀ x, x ∈ B → ∃ (b : Nat) (cs : List Value), a.tmps.getD x.t undef = .pointer (some ⟨b, 0, none⟩) ∧ w0.heap.size ≤ b ∧ w.heap[b]? = some (.cells cs.toArray x.e (0, 0)) ∧ x.c.p cs w ∧ cs.all noLimb = true
  | [], _, _, h => by cases h
  | y :: B, h, x, hx => by
    rcases List.mem_cons.1 hx with rfl | hx
    · obtain ⟨b, cs, h1, h2, h3, h4, h5, _⟩ := h.1
      exact ⟨b, cs, h1, h2, h3, h4, h5⟩
    · exact Boxes.mem h.2 x hx
theorem mem_block {w : World} {b : Nat} {cs : List Value} {t : TypeId} (h : w.heap[b]? = some (.cells cs.toArray t (0, 0))) : Mem w b 0 cs := fun j u hj => by
  unfold World.cell?
  rw [h]
  simpa using hj

section
variable {F : Fence} {m : Nat} {P : Program} {Q : Exit → Act → World → Prop} {w0 : World} {K : List (Nat × KF)} {B : List Bx} {n : Nat} {a : Act} {w : World}

theorem St.at (h : St w0 K B n a w) : At w (envS K B) n a w :=
  ⟨Below.refl _ _, h.size, h.nd, upd_holds (upd_holds (fun _ => trivial) _ fun q hq => (by
    obtain ⟨p, hp, rfl⟩ := mem_envK hq
    exact KF.now (h.sl p hp) h.gr)) _ fun q hq => (by
    obtain ⟨p, hp, rfl⟩ := mem_envB hq
    obtain ⟨b, cs, h1, _, h3, h4, _⟩ := h.bx.mem p hp
    exact ⟨b, 0, cs, h1, h4, mem_block h3⟩)⟩

/-- The slots are not written. -/
def untouched (ops : Array Oper) (ts : List Nat) : Bool := ts.all fun t => (List.range ops.size).all fun i => !(dstAt ops i == some t)
theorem Boxes.keep {a' : Act} {w' : World} (hb : Below w.heap.size w w') (hk : KeepU w w') : ∀ (B : List Bx), (∀ x, x ∈ B → a'.tmps.getD x.t undef = a.tmps.getD x.t undef) → Boxes w0 a w B → Boxes w0 a' w' B
  | [], _, _ => trivial
  | x :: B, hs, ⟨⟨b, cs, h1, h2, h3, h4, h5, h6⟩, h7⟩ =>
    ⟨⟨b, cs, by rw [hs x (by simp)]; exact h1, h2, (hb.block b (Array.getElem?_eq_some_iff.1 h3).1).trans h3, x.c.us _ _ _ h4 hk, h5, fun y hy => by rw [hs y (by simp [hy])]; exact h6 y hy⟩, Boxes.keep hb hk B (fun y hy => hs y (by simp [hy])) h7⟩

theorem envS_get {t : Nat} : ∀ (B : List Bx), (B.map (·.t)).contains t = false → envS K B t = upd nilG (envK K) t
  | B, h => upd_other (by
    have : ∀ B : List Bx, (envB B).map (·.1) = B.map (·.t) := fun B => by
      induction B with
      | nil => rfl
      | cons x B ih => simp [envB, ih]
    rw [this]
    exact h)

/-- The same table, the kept slots' values said. -/
def strongG (K : List (Nat × KF)) (B : List Bx) (a : Act) (t : Nat) : SF := if t ∈ K.map (·.1) ++ B.map (·.t) then ⟨fun v W => (envS K B t).p v W ∧ v = a.tmps.getD t undef, fun _ _ _ h hb => ⟨(envS K B t).st _ _ _ h.1 hb, h.2⟩⟩ else envS K B t
def nodupB : List Nat → Bool
  | [] => true
  | x :: l => !l.contains x && nodupB l
theorem upd_mem {G : Nat → SF} {q : Nat × SF} : ∀ {l : List (Nat × SF)}, nodupB (l.map (·.1)) = true → q ∈ l → upd G l q.1 = q.2
  | [], _, h => by cases h
  | x :: l, hn, h => by
    rw [List.map_cons, nodupB, Bool.and_eq_true] at hn
    show (bif Nat.beq x.1 q.1 then x.2 else upd G l q.1) = q.2
    rcases List.mem_cons.1 h with rfl | h
    · simp
    · have : Nat.beq x.1 q.1 = false := by
        cases e : Nat.beq x.1 q.1 with
        | false => rfl
        | true =>
          exfalso
          have e2 := Nat.eq_of_beq_eq_true e
          have h1 := hn.1
          rw [e2, List.contains_iff_mem.2 (List.mem_map.2 ⟨q, h, rfl⟩)] at h1
          cases h1
      rw [this]
      exact upd_mem hn.2 h

/-- A region of a walk: the first k operations by the table L, the others behind them by their own rules. -/
theorem region_st {ops : Array Oper} {id : Nat} {draw : Bool} (k : Nat) (L : List (Nat × Rw)) (hmix : P.follows .mixedOrders = true) (h : St w0 K B n a w)
    (hchk : flowChk ops draw k n (L.map (·.1)) = true) (hun : untouched ops (K.map (·.1) ++ B.map (·.t)) = true) (hnd : nodupB (L.map (·.1)) = true)
    (hobs : Obs F m P w ops (upd (envS K B) (rowsOf L)) (ops.toList.take k))
    (hfin : ∀ a w, St w0 (keepOf L ++ K) B n a w → wpOpsIn F m P ops Q (List.range' k (ops.size - k)) a w) : (Code.region id ops draw).wpIn F m P Q a w := by
  have hkeys : (rowsOf L).map (·.1) = L.map (·.1) := by simp [rowsOf]
  have hsame : ∀ t, t ∈ K.map (·.1) ++ B.map (·.t) → ∀ i, dstAt ops i ≠ some t := fun t ht i hi => by
    have h1 := List.all_eq_true.1 hun t ht
    obtain ⟨o, ho, _⟩ := dstAt_some hi
    have h2 := List.all_eq_true.1 h1 i (List.mem_range.2 (Array.getElem?_eq_some_iff.1 ho).1)
    rw [hi] at h2
    simp at h2
  have hv : ∀ t, t ∈ K.map (·.1) ++ B.map (·.t) → a.tmps.getD t undef = a.tmps.getD t undef := fun _ _ => rfl
  -- the slots of K and B stay: a table that says so
  have hA := h.at
  refine region_tail (w0 := w) (G := strongG K B a) k (rowsOf L) hmix (by rw [hkeys]; exact hchk)
    ⟨hA.gr, hA.size, hA.nd, fun t => ?_⟩ ?_ fun a' w' hA' => ?_
  · by_cases ht : t ∈ K.map (·.1) ++ B.map (·.t)
    · unfold strongG; rw [if_pos ht]; exact ⟨hA.sl t, rfl⟩
    · unfold strongG; rw [if_neg ht]; exact hA.sl t
  · -- the obligations hold with the stronger table
    have hkn : ∀ t, t ∈ K.map (·.1) ++ B.map (·.t) → ((rowsOf L).map (·.1)).contains t = false := fun t ht => by
      cases hc : ((rowsOf L).map (·.1)).contains t with
      | false => rfl
      | true =>
        exfalso
        have hm := List.contains_iff_mem.1 hc
        unfold flowChk at hchk
        simp only [Bool.and_eq_true] at hchk
        rw [hkeys] at hm
        obtain ⟨i, _, he⟩ := List.any_eq_true.1 (List.all_eq_true.1 hchk.1.1.2 t hm)
        exact hsame t ht i (by simpa using he)
    have hle : ∀ t v W, (upd (strongG K B a) (rowsOf L) t).p v W → (upd (envS K B) (rowsOf L) t).p v W := fun t v W hh => by
      by_cases ht : t ∈ K.map (·.1) ++ B.map (·.t)
      · rw [upd_other (hkn t ht)] at hh ⊢
        unfold strongG at hh
        rw [if_pos ht] at hh
        exact hh.1
      · have : ∀ l : List (Nat × SF), upd (strongG K B a) l t = upd (envS K B) l t := fun l => by
          induction l with
          | nil => exact if_neg ht
          | cons q l ih =>
            show (bif Nat.beq q.1 t then q.2 else upd _ l t) = (bif Nat.beq q.1 t then q.2 else upd _ l t)
            rw [ih]
        rwa [this] at hh
    have hge : ∀ t, (∃ i, dstAt ops i = some t) → ∀ v W, (upd (envS K B) (rowsOf L) t).p v W → (upd (strongG K B a) (rowsOf L) t).p v W := fun t ⟨i, hi⟩ v W hh => by
      have ht : ¬ t ∈ K.map (·.1) ++ B.map (·.t) := fun ht => hsame t ht i hi
      have : ∀ l : List (Nat × SF), upd (strongG K B a) l t = upd (envS K B) l t := fun l => by
        induction l with
        | nil => exact if_neg ht
        | cons q l ih =>
          show (bif Nat.beq q.1 t then q.2 else upd _ l t) = (bif Nat.beq q.1 t then q.2 else upd _ l t)
          rw [ih]
      rwa [this]
    have hconv : ∀ (o : Oper), o ∈ ops.toList → GdOK F m P w ops (upd (envS K B) (rowsOf L)) o → GdOK F m P w ops (upd (strongG K B a) (rowsOf L)) o := by
      intro o ho hg
      have hdst : ∀ d, o.dst = some d → ∃ i, dstAt ops i = some d := fun d hd => by
        obtain ⟨i, hi⟩ := List.getElem?_of_mem ho
        exact ⟨i, by rw [dstAt_of (o := o) (by simpa using hi)]; exact hd⟩
      have hop : OpOK F m P w (upd (envS K B) (rowsOf L)) o → OpOK F m P w (upd (strongG K B a) (rowsOf L)) o := fun h1 b W K' Q' hb hr hK' =>
        h1 b W K' Q' hb (fun t ht => hle t _ _ (hr t ht)) fun v W' hv hb' => hK' v W' (fun d hd => hge d (hdst d hd) _ _ (hv d hd)) hb'
      unfold GdOK at hg ⊢
      cases hgd : o.guard with
      | none => rw [hgd] at hg; exact hop hg
      | some q =>
        rw [hgd] at hg
        obtain ⟨g, bv, h1, h2, h3, h4⟩ := hg
        exact ⟨g, bv, h1, fun v W hh => h2 v W (hle g v W hh), fun e => hop (h3 e), fun e => ⟨fun d hd W => hge d (hdst d hd) _ _ ((h4 e).1 d hd W), (h4 e).2⟩⟩
    have hall : ∀ l : List Oper, (∀ o, o ∈ l → o ∈ ops.toList) → Obs F m P w ops (upd (envS K B) (rowsOf L)) l → Obs F m P w ops (upd (strongG K B a) (rowsOf L)) l := by
      intro l
      induction l with
      | nil => intro _ _; trivial
      | cons o l ih => intro hm ho; exact ⟨hconv o (hm o (by simp)) ho.1, ih (fun o' ho' => hm o' (by simp [ho'])) ho.2⟩
    exact hall _ (fun o ho => List.mem_of_mem_take ho) hobs
  · have hg := hA'.gr
    have hslot : ∀ t, t ∈ K.map (·.1) ++ B.map (·.t) → a'.tmps.getD t undef = a.tmps.getD t undef := fun t ht => by
      have h1 := hA'.sl t
      unfold maskT at h1
      have h2 : ((List.range ops.size).any fun i => decide (k ≤ i) && (dstAt ops i == some t)) = false := by
        refine List.any_eq_false.2 fun i _ => ?_
        have := hsame t ht i
        simp [this]
      rw [h2] at h1
      have h3 : ((rowsOf L).map (·.1)).contains t = false := by
        cases hc : ((rowsOf L).map (·.1)).contains t with
        | false => rfl
        | true =>
          exfalso
          have hm := List.contains_iff_mem.1 hc
          unfold flowChk at hchk
          simp only [Bool.and_eq_true] at hchk
          rw [hkeys] at hm
          obtain ⟨i, _, he⟩ := List.any_eq_true.1 (List.all_eq_true.1 hchk.1.1.2 t hm)
          exact hsame t ht i (by simpa using he)
      rw [show (bif false then SF.any else upd _ (rowsOf L) t) = upd _ (rowsOf L) t from rfl, upd_other h3, strongG, if_pos ht] at h1
      exact h1.2
    refine hfin a' w' ⟨h.gr.trans (hg.mono h.gr.size), hA'.size, hA'.nd, fun q hq => ?_, h.bx.keep hg (keepU_below hg) B fun x hx => hslot _ (List.mem_append_right _ (List.mem_map.2 ⟨x, hx, rfl⟩))⟩
    rcases List.mem_append.1 hq with hq | hq
    · obtain ⟨f, hqf, hm⟩ := mem_keepOf hq
      have hm2 : ((q.1, f.toSF) : Nat × SF) ∈ rowsOf L := List.mem_map.2 ⟨_, hm, rfl⟩
      have h1 := hA'.sl q.1
      have h0 := hchk
      unfold flowChk at h0
      simp only [Bool.and_eq_true] at h0
      obtain ⟨i, hi, he⟩ := List.any_eq_true.1 (List.all_eq_true.1 h0.1.1.2 q.1 (List.mem_map.2 ⟨_, hm, rfl⟩))
      have hik := List.mem_range.1 hi
      have he : dstAt ops i = some q.1 := by simpa using he
      unfold maskT at h1
      have h2 : ((List.range ops.size).any fun j => decide (k ≤ j) && (dstAt ops j == some q.1)) = false := by
        refine List.any_eq_false.2 fun j _ => ?_
        by_cases hj : k ≤ j
        · have : dstAt ops j ≠ some q.1 := fun e => by
            obtain ⟨oi, ho1, hd1⟩ := dstAt_some he
            obtain ⟨oj, ho2, hd2⟩ := dstAt_some e
            exact apartDst_spec h0.1.1.1.1.1.1 ho1 ho2 (by omega) hd1 hd2
          simp [this]
        · simp [hj]
      rw [h2, show (bif false then SF.any else upd (strongG K B a) (rowsOf L) q.1) = upd (strongG K B a) (rowsOf L) q.1 from rfl, upd_mem (q := (q.1, f.toSF)) (by rw [hkeys]; exact hnd) hm2] at h1
      rw [hqf]
      exact h1
    · rw [hslot q.1 (List.mem_append_left _ (List.mem_map.2 ⟨q, hq, rfl⟩))]
      exact KF.us (h.sl q hq) (keepU_below hg)

/-- The rest of a region, operation by operation. -/
def Tail (F : Fence) (m : Nat) (P : Program) (ops : Array Oper) (Q : Exit → Act → World → Prop) (k : Nat) (a : Act) (w : World) : Prop := wpOpsIn F m P ops Q (List.range' k (ops.size - k)) a w
theorem region_go {ops : Array Oper} {id : Nat} {draw : Bool} (k : Nat) (L : List (Nat × Rw)) (hmix : P.follows .mixedOrders = true) (h : St w0 K B n a w)
    (hchk : (flowChk ops draw k n (L.map (·.1)) && untouched ops (K.map (·.1) ++ B.map (·.t)) && nodupB (L.map (·.1))) = true)
    (hobs : Obs F m P w ops (upd (envS K B) (rowsOf L)) (ops.toList.take k))
    (hfin : ∀ a w, St w0 (keepOf L ++ K) B n a w → Tail F m P ops Q k a w) : (Code.region id ops draw).wpIn F m P Q a w := by
  simp only [Bool.and_eq_true] at hchk
  exact region_st k L hmix h hchk.1.1 hchk.1.2 hchk.2 hobs hfin
theorem tail_end {ops : Array Oper} {k : Nat} (hk : ops.size = k) (h : Q .normal a w) : Tail F m P ops Q k a w := by
  unfold Tail
  rw [hk, Nat.sub_self]
  exact h
theorem tail_op {ops : Array Oper} {k : Nat} {o : Oper} (ho : ops[k]? = some o) (hg : o.guard = none) (h : o.wpIn F m P a w (Tail F m P ops Q (k + 1)) Q) : Tail F m P ops Q k a w := by
  have hlt := (Array.getElem?_eq_some_iff.1 ho).1
  unfold Tail
  rw [show ops.size - k = (ops.size - (k + 1)) + 1 from by omega, List.range'_succ, wpOpsIn_cons]
  unfold wpOpIn
  rw [ho]
  have hw : Region.wanted o (yielded ops a.tmps) = true := by unfold Region.wanted; rw [hg]
  show (if Region.wanted o (yielded ops a.tmps) = true then _ else _)
  rw [if_pos hw]
  exact h

theorem St.fct (h : St w0 K B n a w) (x : Operand) : (fct (envS K B) x).p (a.eval x) w := by
  cases x with
  | tmp t => exact h.at.sl t
  | const v => rfl
  | func f => rfl
  | global g => rfl
/-- A new slot. -/
def freshB (K : List (Nat × KF)) (B : List Bx) (n d : Nat) : Bool := !(K.map (·.1) ++ B.map (·.t)).contains d && decide (d < n)
theorem getD_put_same {a : Act} {d : Nat} (hd : d < a.tmps.size) (v : Value) : (a.put (some d) v).tmps.getD d undef = v := by
  show (a.tmps.setIfInBounds d v).getD d undef = v
  rw [Array.getD_eq_getD_getElem?, Array.getElem?_setIfInBounds_self_of_lt hd]
  rfl
theorem getD_put_ne {a : Act} {d t : Nat} (hd : d ≠ t) (v : Value) : (a.put (some d) v).tmps.getD t undef = a.tmps.getD t undef := getD_setv hd
theorem fresh_ne {d t : Nat} (hf : freshB K B n d = true) (ht : t ∈ K.map (·.1) ++ B.map (·.t)) : d ≠ t := fun e => by
  subst e
  unfold freshB at hf
  rw [List.contains_iff_mem.2 ht] at hf
  cases hf
theorem fresh_lt {d : Nat} (hf : freshB K B n d = true) : d < n := by
  unfold freshB at hf
  simp only [Bool.and_eq_true, decide_eq_true_eq] at hf
  exact hf.2

/-- A slot is set. -/
theorem St.set (h : St w0 K B n a w) {d : Nat} {v : Value} (hf : freshB K B n d = true) {w' : World} (hb : Below w.heap.size w w') {f : KF} (hv : f.p w0 v w') : St w0 ((d, f) :: K) B n (a.put (some d) v) w' := by
  refine ⟨h.gr.trans (hb.mono h.gr.size), by rw [size_put]; exact h.size, by rw [defers_put]; exact h.nd, fun q hq => ?_, h.bx.keep hb (keepU_below hb) B fun x hx => getD_put_ne (fresh_ne hf (List.mem_append_right _ (List.mem_map.2 ⟨x, hx, rfl⟩))) v⟩
  rcases List.mem_cons.1 hq with rfl | hq
  · rw [getD_put_same (by rw [h.size]; exact fresh_lt hf)]
    exact hv
  · rw [getD_put_ne (fresh_ne hf (List.mem_append_left _ (List.mem_map.2 ⟨q, hq, rfl⟩)))]
    exact KF.us (h.sl q hq) (keepU_below hb)
/-- A box is laid. -/
theorem St.lay (h : St w0 K B n a w) {d : Nat} {e : TypeId} {cs : List Value} (hf : freshB K B n d = true) {C : CU} (hc : C.p cs w) (hn : cs.all noLimb = true) : St w0 K (⟨d, e, C⟩ :: B) n (a.put (some d) (.pointer (some ⟨w.heap.size, 0, none⟩))) (w.alloc (.cells cs.toArray e (0, 0))) := by
  have hb := alloc_b w (.cells cs.toArray e (0, 0))
  have hne : ∀ x, x ∈ B → (a.put (some d) (.pointer (some ⟨w.heap.size, 0, none⟩))).tmps.getD x.t undef = a.tmps.getD x.t undef := fun x hx => getD_put_ne (fresh_ne hf (List.mem_append_right _ (List.mem_map.2 ⟨x, hx, rfl⟩))) _
  refine ⟨h.gr.trans (hb.mono h.gr.size), by rw [size_put]; exact h.size, by rw [defers_put]; exact h.nd, fun q hq => ?_, ⟨w.heap.size, cs, getD_put_same (by rw [h.size]; exact fresh_lt hf) _, h.gr.size, World.alloc_heap_new w _, C.us _ _ _ hc (keepU_below hb), hn, fun y hy e => ?_⟩, h.bx.keep hb (keepU_below hb) B hne⟩
  · rw [getD_put_ne (fresh_ne hf (List.mem_append_left _ (List.mem_map.2 ⟨q, hq, rfl⟩)))]
    exact KF.us (h.sl q hq) (keepU_below hb)
  · rw [hne y hy] at e
    obtain ⟨b, _, h1, _, h3, _⟩ := h.bx.mem y hy
    rw [h1] at e
    injection e with e
    injection e with e
    injection e with e
    have := (Array.getElem?_eq_some_iff.1 h3).1
    omega

theorem t_set {ops : Array Oper} {k d : Nat} {x : Operand} {ty : TypeId} {pos : String} {aft : Array Edge} (f : UF) (ho : ops[k]? = some ⟨some d, .assign x, ty, pos, aft, none⟩) (h : St w0 K B n a w) (hf : freshB K B n d = true) (hx : ∀ v W, (Wd.fct (envS K B) x).p v W → f.p v W)
    (fin : ∀ a w, St w0 ((d, .u f) :: K) B n a w → Tail F m P ops Q (k + 1) a w) : Tail F m P ops Q k a w :=
  tail_op ho rfl (op_value (fun _ e => by cases e) (fun _ e => by cases e) (W' := w) (v := a.eval x) rfl (fin _ _ (h.set hf (Below.refl _ _) (hx _ _ (h.fct x)))))
theorem t_box {ops : Array Oper} {k d : Nat} {e : TypeId} {x : Operand} {ty : TypeId} {pos : String} {aft : Array Edge} (C : CU) (ho : ops[k]? = some ⟨some d, .box e x, ty, pos, aft, none⟩) (h : St w0 K B n a w) (hf : freshB K B n d = true) (hx : ∀ v W, (Wd.fct (envS K B) x).p v W → C.p v.cells.toList W ∧ v.cells.toList.all noLimb = true)
    (fin : ∀ a w, St w0 K (⟨d, e, C⟩ :: B) n a w → Tail F m P ops Q (k + 1) a w) : Tail F m P ops Q k a w :=
  tail_op ho rfl (op_value (fun _ e => by cases e) (fun _ e => by cases e) (W' := w.alloc (.cells (a.eval x).cells e (0, 0))) (v := .pointer (some ⟨w.heap.size, 0, none⟩)) (by simp [execOp, Instr.box, newVar, newRow]) (by
    have h1 := hx _ _ (h.fct x)
    have := h.lay (e := e) hf h1.1 h1.2
    rw [Array.toArray_toList] at this
    exact fin _ _ this))
theorem t_alloc {ops : Array Oper} {k d : Nat} {e : TypeId} {ty : TypeId} {pos : String} {aft : Array Edge} (C : CU) {cs : List Value} (hz : zeroCells P e = some cs) (ho : ops[k]? = some ⟨some d, .alloc e, ty, pos, aft, none⟩) (h : St w0 K B n a w) (hf : freshB K B n d = true) (hx : ∀ W, C.p cs W) (hn : cs.all noLimb = true)
    (fin : ∀ a w, St w0 K (⟨d, e, C⟩ :: B) n a w → Tail F m P ops Q (k + 1) a w) : Tail F m P ops Q k a w := by
  have hrun : (Instr.alloc e true (.tuple #[])).run P w = .ok (.pointer (some ⟨w.heap.size, 0, none⟩)) (w.alloc (.cells cs.toArray e (0, 0))) := by
    unfold zeroCells at hz
    cases hi : P.info? e with
    | none => rw [hi] at hz; cases hz
    | some i =>
      rw [hi] at hz
      simp only [Option.bind_some] at hz
      cases hzz : i.zero with
      | none => rw [hzz] at hz; cases hz
      | some z =>
        rw [hzz] at hz
        simp only [Option.map_some, Option.some.injEq] at hz
        subst hz
        simp [Instr.alloc, zeroValue, typeInfo, hi, hzz, newVar, newRow]
  exact tail_op ho rfl (op_value (fun _ e => by cases e) (fun _ e => by cases e) (W' := w.alloc (.cells cs.toArray e (0, 0))) (v := .pointer (some ⟨w.heap.size, 0, none⟩)) (by simp [execOp, hrun]) (fin _ _ (h.lay hf (hx _) hn)))

/-- A box's cells are said anew. -/
def setB : List Bx → Nat → CU → List Bx
  | [], _, _ => []
  | x :: B, c, C => bif Nat.beq x.t c then ⟨x.t, x.e, C⟩ :: B else x :: setB B c C
theorem setB_t : ∀ (B : List Bx) (c : Nat) (C : CU), (setB B c C).map (·.t) = B.map (·.t)
  | [], _, _ => rfl
  | x :: B, c, C => by
    unfold setB
    cases Nat.beq x.t c with
    | true => rfl
    | false => simp [setB_t B c C]
theorem Boxes.set {b c : Nat} {vs : List Value} {C : CU} {x : Bx} (hc : C.p vs w) (hn : vs.all noLimb = true) : ∀ (B : List Bx), Boxes w0 a w B → x ∈ B → x.t = c → a.tmps.getD c undef = .pointer (some ⟨b, 0, none⟩) → KeepU w (w.setRow b vs.toArray) → Boxes w0 a (w.setRow b vs.toArray) (setB B c C)
  | [], _, h, _, _, _ => by cases h
  | y :: B, ⟨⟨b', cs, h1, h2, h3, h4, h5, h6⟩, h7⟩, hx, hxc, hp, hk => by
    unfold setB
    cases e : Nat.beq y.t c with
    | true =>
      have e2 := Nat.eq_of_beq_eq_true e
      rw [e2, hp] at h1
      obtain rfl : b = b' := by injection h1 with h1; injection h1 with h1; injection h1
      refine ⟨⟨b, vs, by rw [e2]; exact hp, h2, setRow_heap w b cs.toArray vs.toArray y.e (0, 0) h3, C.us _ _ _ hc hk, hn, h6⟩, ?_⟩
      have : ∀ B : List Bx, Boxes w0 a w B → (∀ z, z ∈ B → a.tmps.getD z.t undef ≠ .pointer (some ⟨b, 0, none⟩)) → Boxes w0 a (w.setRow b vs.toArray) B := by
        intro B
        induction B with
        | nil => intro _ _; trivial
        | cons z B ih =>
          intro hB hz
          obtain ⟨⟨b2, c2, g1, g2, g3, g4, g5, g6⟩, g7⟩ := hB
          have hne : b2 ≠ b := fun e => hz z (by simp) (by rw [g1, e])
          exact ⟨⟨b2, c2, g1, g2, (setRow_other w b b2 vs.toArray hne).trans g3, z.c.us _ _ _ g4 hk, g5, g6⟩, ih g7 fun z' hz' => hz z' (by simp [hz'])⟩
      exact this B h7 h6
    | false =>
      have hxB : x ∈ B := by
        rcases List.mem_cons.1 hx with rfl | hx
        · rw [hxc] at e; simp at e
        · exact hx
      have hne : b' ≠ b := fun e' => h6 x hxB (by rw [hxc, hp, e'])
      refine ⟨⟨b', cs, h1, h2, (setRow_other w b b' vs.toArray hne).trans h3, y.c.us _ _ _ h4 hk, h5, fun z hz => ?_⟩, Boxes.set hc hn B h7 hxB hxc hp hk⟩
      have hz2 : z.t ∈ B.map (·.t) := by rw [← setB_t B c C]; exact List.mem_map.2 ⟨z, hz, rfl⟩
      obtain ⟨z', hz', e3⟩ := List.mem_map.1 hz2
      rw [← e3]
      exact h6 z' hz'
theorem t_store {ops : Array Oper} {k c kk : Nat} {t : TypeId} {x : Operand} {ty : TypeId} {pos : String} {aft : Array Edge} (C : CU) (f : SF) (ho : ops[k]? = some ⟨none, .store t (.tmp c) x, ty, pos, aft, none⟩) (h : St w0 K B n a w) (hsz : aggSize P t = some kk) (hB : ∃ y, y ∈ B ∧ y.t = c ∧ y.e = t ∧ ∀ cs W, y.c.p cs W → cs.length = kk)
    (hx : ∀ v W, (Wd.fct (envS K B) x).p v W → f.p v W) (hv : ∀ v W, f.p v W → ∃ vs : List Value, v = .agg vs.toArray ∧ vs.length = kk ∧ (∀ u, u ∈ vs → u.oneCell' = true) ∧ vs.all noLimb = true ∧ C.p vs W)
    (fin : ∀ a w, St w0 K (setB B c C) n a w → Tail F m P ops Q (k + 1) a w) : Tail F m P ops Q k a w := by
  obtain ⟨y, hy, hyc, hye, hyl⟩ := hB
  obtain ⟨b, cs, h1, h2, h3, h4, h5⟩ := h.bx.mem y hy
  obtain ⟨vs, e, hl, ho1, hnl, hC⟩ := hv _ _ (hx _ _ (h.fct x))
  rw [hyc] at h1
  have hk : KeepU w (w.setRow b vs.toArray) := setRow_keepU h3 (by simpa using h5)
  refine tail_op ho rfl (op_store hsz hye (hyl _ _ h4) h1 h3 e hl ho1 (fin _ _ ⟨below_row_ h.gr h2, h.size, h.nd, fun q hq => KF.us (h.sl q hq) hk, h.bx.set hC hnl B hy hyc h1 hk⟩))

/-- A contract, out of its body's walk. -/
theorem run_st {f : FuncId} {fn : Func} {c : Code} {args : Array Value} {R : Ending → World → Prop} (l : List SF)
    (hf : P.funcs[f]? = some fn) (hb : fn.body = some c) (hn : Nat.ble args.size fn.ntmps = true) (hA : ArgsOK w l args.toList)
    (h : ∀ a, St w ((argL 0 l).map fun q => (q.1, KF.o q.2)) [] fn.ntmps a w → c.wpIn Fence.wide 0 P (bodyPost P fn R) a w) : Calls P f args w R := by
  refine run_fn l hf hb hn hA fun a hA => h a ⟨hA.gr, hA.size, hA.nd, fun q hq => ?_, trivial⟩
  obtain ⟨p, hp, rfl⟩ := List.mem_map.1 hq
  have hnd : ∀ (l : List SF) (k : Nat), (∀ t, t ∈ (argL k l).map (·.1) → k ≤ t) ∧ nodupB ((argL k l).map (·.1)) = true := by
    intro l
    induction l with
    | nil => intro k; exact ⟨fun t ht => (by cases ht), rfl⟩
    | cons f l ih =>
      intro k
      obtain ⟨h1, h2⟩ := ih (k + 1)
      refine ⟨fun t ht => ?_, ?_⟩
      · rcases List.mem_cons.1 ht with rfl | ht
        · exact Nat.le_refl _
        · have := h1 t ht; omega
      · show (!((argL (k + 1) l).map (·.1)).contains k && nodupB _) = true
        rw [h2]
        cases hc : ((argL (k + 1) l).map (·.1)).contains k with
        | false => rfl
        | true =>
          have := h1 k (List.contains_iff_mem.1 hc)
          omega
  have := hA.sl p.1
  rw [upd_mem (hnd l 0).2 hp] at this
  exact this
/-- Fewer facts. -/
def dropK (K : List (Nat × KF)) (ts : List Nat) : List (Nat × KF) := K.filter fun q => !ts.contains q.1
theorem St.drop (h : St w0 K B n a w) (ts : List Nat) : St w0 (dropK K ts) B n a w := ⟨h.gr, h.size, h.nd, fun q hq => h.sl q (List.mem_filter.1 hq).1, h.bx⟩
theorem St.keepK (h : St w0 K B n a w) (K' : List (Nat × KF)) (hs : ∀ q, q ∈ K' → q ∈ K) : St w0 K' B n a w := ⟨h.gr, h.size, h.nd, fun q hq => h.sl q (hs q hq), h.bx⟩
theorem St.cond (h : St w0 K B n a w) {c : Operand} {x y : Code} (bv : Bool) (hc : ∀ v W, (Wd.fct (envS K B) c).p v W → v = .bool bv) (ht : bv = true → x.wpIn F m P Q a w) (hf : bv = false → y.wpIn F m P Q a w) : (Code.cond c x y).wpIn F m P Q a w :=
  wpIn_cond_split (hc _ _ (h.fct c)) ht hf

/-- The answers: what result variables hold. -/
def resF (K : List (Nat × KF)) (B : List Bx) : ResultVar → SF
  | .tmp t => envS K B t
  | .cell t _ => ⟨fun v W => (∃ cs : List Value, v = .agg cs.toArray ∧ (∃ x, x ∈ B ∧ x.t = t ∧ x.c.p cs W)), fun _ _ _ ⟨cs, h1, x, h2, h3, h4⟩ hb => ⟨cs, h1, x, h2, h3, x.c.us _ _ _ h4 (keepU_below hb)⟩⟩
theorem St.res1 (h : St w0 K B n a w) {fn : Func} {f : SF} {t : Nat} (hr : fn.results = #[.tmp t]) (hd : ∀ v W, (envS K B t).p v W → f.p v W) : bodyPost P fn (Ret w0 f) .ret a w := by
  refine ⟨h.nd, _, ?_, ⟨_, rfl, hd _ _ (h.at.sl t), h.gr⟩⟩
  simp [results, hr]
theorem St.cellv (h : St w0 K B n a w) {t kk : Nat} {e : TypeId} {C : CU} (hsz : aggSize P e = some kk) (hB : ∃ y, y ∈ B ∧ y.t = t ∧ y.c = C ∧ ∀ cs W, C.p cs W → cs.length = kk) : ∃ (cs : List Value) (b : Nat), a.tmps[t]?.getD undef = .pointer (some ⟨b, 0, none⟩) ∧ (loadVar e ⟨b, 0, none⟩).run P w = .ok (.agg cs.toArray) w ∧ C.p cs w := by
  obtain ⟨y, hy, rfl, rfl, hl⟩ := hB
  obtain ⟨b, cs, h1, h2, h3, h4, h5⟩ := h.bx.mem y hy
  exact ⟨cs, b, by rw [← Array.getD_eq_getD_getElem?]; exact h1, run_cell hsz (hl _ _ h4) h3, h4⟩
theorem St.resC (h : St w0 K B n a w) {fn : Func} {f : SF} {t kk : Nat} {e : TypeId} (C : CU) (hr : fn.results = #[.cell t e]) (hsz : aggSize P e = some kk) (hB : ∃ y, y ∈ B ∧ y.t = t ∧ y.c = C ∧ ∀ cs W, C.p cs W → cs.length = kk)
    (hd : ∀ cs W, C.p cs W → f.p (.agg cs.toArray) W) : bodyPost P fn (Ret w0 f) .ret a w := by
  obtain ⟨cs, b, h0, h1, h2⟩ := h.cellv hsz hB
  refine ⟨h.nd, .agg cs.toArray, ?_, ⟨_, rfl, hd _ _ h2, h.gr⟩⟩
  simp [results, hr, asAddr, h0, h1]
theorem St.resCT (h : St w0 K B n a w) {fn : Func} {f : SF} {t r kk : Nat} {e : TypeId} (C : CU) (hr : fn.results = #[.cell t e, .tmp r]) (hsz : aggSize P e = some kk) (hB : ∃ y, y ∈ B ∧ y.t = t ∧ y.c = C ∧ ∀ cs W, C.p cs W → cs.length = kk)
    (hd : ∀ cs v W, C.p cs W → (envS K B r).p v W → f.p (.tuple #[.agg cs.toArray, v]) W) : bodyPost P fn (Ret w0 f) .ret a w := by
  obtain ⟨cs, b, h0, h1, h2⟩ := h.cellv hsz hB
  refine ⟨h.nd, .tuple #[.agg cs.toArray, a.tmps.getD r undef], ?_, ⟨_, rfl, hd _ _ _ h2 (h.at.sl r), h.gr⟩⟩
  simp [results, hr, asAddr, h0, h1]
theorem St.resCCT (h : St w0 K B n a w) {fn : Func} {f : SF} {t s r kk kk' : Nat} {e e' : TypeId} (C C' : CU) (hr : fn.results = #[.cell t e, .cell s e', .tmp r]) (hsz : aggSize P e = some kk) (hsz' : aggSize P e' = some kk') (hB : ∃ y, y ∈ B ∧ y.t = t ∧ y.c = C ∧ ∀ cs W, C.p cs W → cs.length = kk) (hB' : ∃ y, y ∈ B ∧ y.t = s ∧ y.c = C' ∧ ∀ cs W, C'.p cs W → cs.length = kk')
    (hd : ∀ cs cs' v W, C.p cs W → C'.p cs' W → (envS K B r).p v W → f.p (.tuple #[.agg cs.toArray, .agg cs'.toArray, v]) W) : bodyPost P fn (Ret w0 f) .ret a w := by
  obtain ⟨cs, b, h0, h1, h2⟩ := h.cellv hsz hB
  obtain ⟨cs', b', h0', h1', h2'⟩ := h.cellv hsz' hB'
  refine ⟨h.nd, .tuple #[.agg cs.toArray, .agg cs'.toArray, a.tmps.getD r undef], ?_, ⟨_, rfl, hd _ _ _ _ h2 h2' (h.at.sl r), h.gr⟩⟩
  simp [results, hr, asAddr, h0, h1, h0', h1']
/-- Two ways that meet. -/
theorem seq_mid {x y : Code} (I : Act → World → Prop) (h1 : x.wpIn F m P (Exit.then I Q) a w) (h2 : ∀ a w, I a w → y.wpIn F m P Q a w) : (Code.seq x y).wpIn F m P Q a w :=
  wpIn_seq (Code.wpIn_mono (fun e a w h => by cases e <;> first | exact h2 a w h | exact h) h1)
end
end Go.Proofs.Wd
