/- A law for 'for x, y := range seq' whose body never leaves early, over an iterator that hands over a known row of values; and append onto a row of limbs. -/
import Derived.Test.YtghgemeclgpibaaDoorMem
import Derived.RangeFuncNested
import Derived.RangeFuncBound
import Derived.RangeFuncCalls
import Derived.RangeFuncLeaves
import Derived.Maps.AppendAt
import Derived.OwnWalkIn
import Derived.TacticsInMore
import Derived.LoopNIn
import Derived.LoopIn
import Derived.Deep.QuietTactic
import Derived.BigQuiet
namespace Go.Proofs.Wd
open Go.RowKit Lb

/-- What an iterator value promises at every loop that never says 'no more': the values enc 0 .. enc (N-1), in order. Kp: what a round keeps; Fr: what the iterator's own steps are; Fin: what holds at its end. -/
def Iter (P : Program) (gf : Nat) (lb : Array Value) (enc : Nat → Array Value) (N : Nat) (Kp Fr : World → World → Prop) (Fin : World → Prop) (w0 : World) : Prop :=
  ∀ (l : Nat) (J : Nat → World → Prop) (W : World), Below w0.heap.size w0 W →
    (∀ k W1 W2, J k W1 → Fr W1 W2 → J k W2) →
    (∀ k W1, k < N → J k W1 → YieldAt Fence.wide 0 P l (enc k) W1 fun e W' => e = .returned (.bool true) ∧ J (k + 1) W' ∧ Kp W1 W') →
    J 0 W →
    Calls P gf (#[.func (.yield l) #[] #[]] ++ lb) W fun e W' => (∃ v, e = .returned v) ∧ J N W' ∧ Fin W'

theorem wide_fn (f : FuncId) : Fence.wide.fn f = True := rfl
theorem wide_depth : Fence.wide.depth = none := rfl
/-- How a round's body ends. -/
def roundEnd (B : Nat) (Kp : World → World → Prop) (I : Nat → World → Prop) (k : Nat) (W : World) : Exit → Act → World → Prop
  | .normal, _, W' => KeepsFrom B W W' ∧ Kp W W' ∧ I k W'
  | _, _, _ => False

theorem wp_range {P : Program} {g : Operand} {ps : Array Tmp} {assign body : Code} {Q : Exit → Act → World → Prop} {a : Act} {w : World}
    {gf : Nat} {lb : Array Value} (hg : a.eval g = .func (.func gf) #[] lb) (eg : ∀ args w, (callFunc gf args).run P w = .ok (.enter gf args) w)
    {enc : Nat → Array Value} {N : Nat} {Kp Fr : World → World → Prop} {Fin : World → Prop} (hit : Iter P gf lb enc N Kp Fr Fin w)
    (hps : ∀ k, (enc k).size = ps.size) (hKt : ∀ {A B C : World}, Kp A B → Kp B C → Kp A C)
    (hKb : ∀ (W : World) (l : Nat) (o o' : Obj), w.heap.size ≤ l → W.heap[l]? = some o → o.isCells = false → Kp W (W.putObj l o'))
    (I : Nat → World → Prop) (hI : OwnFrom w.heap.size I) (hF : ∀ k W1 W2, I k W1 → Fr W1 W2 → I k W2)
    (hFb : ∀ W1 W2, Fr W1 W2 → ∀ (k : Nat) (o : Obj), w.heap.size ≤ k → W1.heap[k]? = some o → o.isCells = false → W2.heap[k]? = some o)
    (hFin : ∀ (W : World) (l : Nat) (o o' : Obj), w.heap.size ≤ l → W.heap[l]? = some o → o.isCells = false → Fin W → Fin (W.putObj l o'))
    (h0 : I 0 w) (a₁ : Nat → Act)
    (hassign : ∀ (l k : Nat) (W : World) (K : Act → World → Prop), K (a₁ k) W →
      assign.wpIn (Fence.wide.inRound l) 0 P (Exit.then K (fun _ _ _ => False)) { tmps := (ps.zip (enc k)).foldl (fun t (p, v) => t.setIfInBounds p v) a.tmps, defers := [] } W)
    (hbody : ∀ (l k : Nat) (W : World), k < N → I k W → body.wpIn (Fence.wide.inRound l) 0 P (roundEnd w.heap.size Kp I (k + 1) W) (a₁ k) W)
    (hdone : ∀ (D : Nat) (W : World), w.heap.size ≤ D → I N W → Fin W → W.heap[D]? = some (.deferred (some [])) → Q .normal { a with defers := { target := .collected D, args := #[] } :: a.defers } W) :
    (Code.rangeFunc g ps assign body).wp P Q a w := by
  refine (wpIn_wide (n := 0)).1 (wpIn_rangeFunc ?_)
  intro fn hfn
  show ∃ l mark w₁ d w₁' f args w₂, (Instr.enterLoop fn a.tmps ps assign body none).run P w = _ ∧ _
  obtain ⟨rec, hrec⟩ : ∃ rec : LoopState → Option Code → Loop, rec = fun st pe => { state := st, pending := pe, fn, tmps := a.tmps, params := ps, assign, body, defers := w.heap.size } := ⟨_, rfl⟩
  obtain ⟨W1, hW1⟩ : ∃ W1, (w.alloc (.deferred (some []))).alloc (.loop (rec .ready none)) = W1 := ⟨_, rfl⟩
  have hL1 : W1.heap[w.heap.size + 1]? = some (.loop (rec .ready none)) := by
    rw [← hW1]; have := World.alloc_heap_new (w.alloc (.deferred (some []))) (.loop (rec .ready none)); rwa [World.size_alloc] at this
  have hK1 : W1.heap[w.heap.size]? = some (.deferred (some [])) := by
    rw [← hW1]; exact (Below.heap_alloc _ _ _ (by simp)).trans (World.alloc_heap_new w _)
  have hI1 : I 0 W1 := by rw [← hW1]; exact hI.alloc _ (hI.alloc _ h0)
  have hb1 : Below w.heap.size w W1 := by
    rw [← hW1]; exact ((Below.refl _ w).alloc (Nat.le_refl _) _).alloc (by simp) _
  refine ⟨w.heap.size + 1, [{ target := .collected w.heap.size, args := #[] }], W1, { target := .fn (.func gf) lb, args := #[.func (.yield (w.heap.size + 1)) #[] #[]] }, W1, gf,
    #[.func (.yield (w.heap.size + 1)) #[] #[]] ++ lb, W1, ?_, ?_, ?_, ?_, fun h => absurd h (by simp [Fence.wide]), ?_⟩
  · rw [← hW1, hrec]; exact run_enterLoop_outer _ _ _ _ _
  · simp only [resolve, hg]
    simp [go_sem]
  · intro f' _; trivial
  · simp [invoke, go_sem, eg]
  · refine callsIn_wide.2 ((hit (w.heap.size + 1)
      (fun k W => I k W ∧ W.heap[w.heap.size + 1]? = some (.loop (rec .ready none)) ∧ W.heap[w.heap.size]? = some (.deferred (some [])))
      W1 hb1
      (fun k A B hs hf => ⟨hF k A B hs.1 hf, hFb A B hf _ _ (by omega) hs.2.1 rfl, hFb A B hf _ _ (Nat.le_refl _) hs.2.2 rfl⟩)
      ?_ ⟨hI1, hL1, hK1⟩).mono ?_)
    · rintro k W hk ⟨hi, hl, hd⟩
      have hlt : w.heap.size + 1 < W.heap.size := (Array.getElem?_eq_some_iff.1 hl).1
      have hy := run_yield (P := P) (args := enc k) hl (by rw [hrec]; exact hps k)
      rw [hrec] at hy
      refine ⟨fn, _, assign, body, hy, roundIn_of_wpIn hfn (hassign _ k W _ ⟨_, run_beginRound hl (by rw [hrec]), ?_⟩)⟩
      have hl2 : (W.putObj (w.heap.size + 1) (.loop { rec .ready none with state := .busy })).heap[w.heap.size + 1]? = some (.loop { rec .ready none with state := .busy }) := World.putObj_heap_same hlt
      have hk2 : (W.putObj (w.heap.size + 1) (.loop { rec .ready none with state := .busy })).heap[w.heap.size]? = some (.deferred (some [])) := (World.putObj_heap_other (by omega)).trans hd
      have hw2 : Kp W (W.putObj (w.heap.size + 1) (.loop { rec .ready none with state := .busy })) := hKb _ _ _ _ (by omega) hl rfl
      refine wpIn_mono (hbody _ k _ hk (hI.putObj _ hi (by omega) hl rfl)) ?_
      rintro e a3 W3 hp
      cases e with
      | normal =>
        obtain ⟨hk3, hkp3, hi3⟩ := hp
        have hl3 := hk3.same _ _ (by omega) hl2 rfl
        have hend := run_endRound (P := P) none hl3
        have hlt3 : w.heap.size + 1 < W3.heap.size := (Array.getElem?_eq_some_iff.1 hl3).1
        refine ⟨_, _, hend, rfl, ⟨hI.putObj _ hi3 (by omega) hl3 rfl, ?_, ?_⟩, hKt (hKt hw2 hkp3) (hKb _ _ _ _ (by omega) hl3 rfl)⟩
        · rw [World.putObj_heap_same hlt3]; simp [hrec]
        · exact (World.putObj_heap_other (by omega)).trans (hk3.same _ _ (Nat.le_refl _) hk2 rfl)
      | ret => exact hp.elim
      | exit id => exact hp.elim
      | goto t => exact hp.elim
      | panic ch => exact hp.elim
      | outgrown => exact hp.elim
    · rintro e W2 ⟨⟨v, rfl⟩, ⟨hi, hl, hd⟩, hfin⟩
      exact ⟨none, _, by have := run_endLoop (P := P) hl (by rw [hrec]; simp); rw [hrec] at this; exact this, hdone _ _ (Nat.le_refl _) (hI.putObj _ hi (by omega) hl rfl) (hFin _ _ _ _ (by omega) hl rfl hfin) ((World.putObj_heap_other (by omega)).trans hd)⟩

/-- What an iterator does that only reads, makes memory and draws. -/
def Mk (W1 W2 : World) : Prop := Below W1.heap.size W1 W2
theorem Mk.keeps {B : Nat} (W1 W2 : World) (h : Mk W1 W2) (k : Nat) (o : Obj) (_ : B ≤ k) (hk : W1.heap[k]? = some o) (_ : o.isCells = false) : W2.heap[k]? = some o :=
  (h.block k (Array.getElem?_eq_some_iff.1 hk).1).trans hk
theorem belowK_b' {n₀ : Nat} {w : World} (hn : n₀ ≤ w.heap.size) (W : World) (l : Nat) (o o' : Obj) (hl : w.heap.size ≤ l) (h : W.heap[l]? = some o) (_ : o.isCells = false) : Below n₀ W (W.putObj l o') :=
  (Below.refl n₀ W).grown (grownBy_putObj' W l o') (by have := (Array.getElem?_eq_some_iff.1 h).1; omega) (fun k e => by cases e; omega)

/-- A function with such loops, out of its body's walk. -/
theorem calls_marks {P : Program} {f : FuncId} {fn : Func} {c : Code} {args : Array Value} {w : World} {R : Ending → World → Prop}
    (hf : P.funcs[f]? = some fn) (hb : fn.body = some c)
    (h : c.wp P (bodyPostM Fence.wide 0 P fn R) { tmps := args ++ Array.replicate (fn.ntmps - args.size) undef, defers := [] } w) : Calls P f args w R :=
  callsIn_wide.1 (callsIn_of_wp_marks hf hb trivial ((wpIn_wide (n := 0)).2 h))

theorem calls_in {P : Program} {f : FuncId} {fn : Func} {c : Code} {args : Array Value} {w : World} {R : Ending → World → Prop}
    (hf : P.funcs[f]? = some fn) (hb : fn.body = some c)
    (h : c.wpIn Fence.wide 0 P (bodyPost P fn R) { tmps := args ++ Array.replicate (fn.ntmps - args.size) undef, defers := [] } w) : Calls P f args w R :=
  callsIn_wide.1 (callsIn_of_wp hf hb trivial h)

/-! ### append onto a row of limbs -/
/-- The slice value v owns its limbs l, in a block from base on. -/
def Own32 (w : World) (base : Nat) (e : TypeId) (v : Value) (l : List Nat) : Prop := w.ownsRow base e 1 v l.length (u32s l)

theorem Own32.form {w : World} {base : Nat} {e : TypeId} {v : Value} {l : List Nat} (h : Own32 w base e v l) : ∃ A c, v = .slice A l.length c := own_form h
theorem Own32.form' {w : World} {base : Nat} {e : TypeId} {v : Value} {l : List Nat} (h : Own32 w base e v l) {n : Nat} (hl : l.length = n) : ∃ A c, v = .slice A n c := by
  subst hl; exact h.form
theorem Own32.rd {w : World} {base : Nat} {e : TypeId} {A : Option Addr} {n c : Nat} {l : List Nat} (h : Own32 w base e (.slice A n c) l) : Rd w A n c l := by
  obtain ⟨A', c', hv⟩ := h.form
  injection hv with h1 h2 h3
  exact Rd.of_own h h2.symm
theorem Own32.grown {w w1 w2 : World} {B base : Nat} {e : TypeId} {v : Value} {l : List Nat} (hb : Below B w w1) (ho : Own32 w1 base e v l) (hg : w1.grownBy w2 v.ownBlock) (hB : B ≤ base) (hB1 : B ≤ w1.heap.size) : Below B w w2 :=
  hb.grown hg hB1 fun k hk => by have := (World.ownsRow.lt ho k hk).1; omega
theorem Own32.alloc {w : World} {base : Nat} {e : TypeId} {v : Value} {l : List Nat} (h : Own32 w base e v l) (o : Obj) : Own32 (w.alloc o) base e v l := World.ownsRow.alloc h o
theorem Own32.none_ (w : World) (base : Nat) (e : TypeId) : Own32 w base e (.slice none 0 0) [] := World.ownsRow_nil _ _ _ _

theorem run_append_rd {P : Program} (w : World) (t ty e : TypeId) (ht : P.underlying t = some (.slice e)) (hinf : (P.info? e).map (fun i => (i.zero, i.size, i.bytes)) = some (some (.int .u32 0), 1, 4))
    (base : Nat) (v : Value) (l m : List Nat) (hown : Own32 w base e v l) (A : Option Addr) (n c : Nat) (hr : Rd w A n c m) (hsz : l.length + m.length ≤ 17592186044416) (hbase : base ≤ w.heap.size) :
    ∃ v' w', (Builtin.append_ #[t, t] ty #[v, .slice A n c]).run P w = .ok v' w' ∧ Own32 w' base e v' (l ++ m) ∧ w.grownBy w' v.ownBlock ∧ (v'.ownBlock = v.ownBlock ∨ v'.ownBlock = some w.heap.size) := by
  obtain rfl := hr.len
  obtain ⟨i, hi, hz0, hz1, hz2⟩ := info_parts hinf
  have h63 : l.length + m.length ≤ maxLen := by unfold maxLen; omega
  by_cases hm : m.length = 0
  · have hm0 : m = [] := List.eq_nil_of_length_eq_zero hm
    subst hm0
    refine ⟨v, w, ?_, by simpa using hown, World.grownBy.refl w _, .inl rfl⟩
    rcases hown.2 with ⟨rfl, _⟩ | ⟨g, cap, cur, rfl, _, _, hnc, _⟩
    · rcases A with _ | ad
      · simp [Builtin.append_, run_underlying ht, sizeOf, typeInfo, hi, Builtin.lenOf, Builtin.firstCells]
      · simp [Builtin.append_, run_underlying ht, sizeOf, typeInfo, hi, Builtin.lenOf, Builtin.firstCells, loadCells, loadCellsFrom]
    · rcases A with _ | ad
      · simp [Builtin.append_, run_underlying ht, sizeOf, typeInfo, hi, Builtin.lenOf, Builtin.firstCells, hnc, storeCells]
      · simp [Builtin.append_, run_underlying ht, sizeOf, typeInfo, hi, Builtin.lenOf, Builtin.firstCells, hnc, storeCells, loadCells, loadCellsFrom]
  · obtain ⟨b, o, rfl, hb, hc⟩ := hr.shape (by omega)
    obtain ⟨v', w', hrun, h2, h3, _, h5⟩ := run_append_own_at (P := P) w base t ty e i (.int .u32 0) 1 4 ht hi hz0 hz1 hz2 rfl (by decide) v l.length (u32s l) hown ⟨b, o, none⟩ m.length c (u32s m) (by rw [u32s_len, Nat.mul_one])
      (fun j u hj => by
        have hlt : j < m.length := by have := (List.getElem?_eq_some_iff.1 hj).1; rwa [u32s_len] at this
        rw [u32s_get m j hlt] at hj
        injection hj with hj
        subst hj
        rw [Addr.add_lit]
        exact hc j hlt) (u32s_one m) h63 (by omega) hbase
    refine ⟨v', w', hrun, ?_, h3, h5⟩
    unfold Own32
    rw [List.length_append, u32s_append]
    exact h2

theorem wpList_append_rd {P : Program} {w : World} {ops : Array Oper} {rest : List Oper} {o : Oper} {a : Act} {Q : Exit → Act → World → Prop} (hgd : o.guard = none) (s x : Operand) (t e : TypeId)
    (ho : o.op = .call { callee := .builtin .append, args := #[s, x], argTypes := #[t, t] })
    (ht : P.underlying t = some (.slice e)) (hinf : (P.info? e).map (fun i => (i.zero, i.size, i.bytes)) = some (some (.int .u32 0), 1, 4))
    (base : Nat) (v : Value) (l : List Nat) (hs : a.eval s = v) (hown : Own32 w base e v l)
    (A : Option Addr) (k c : Nat) (m : List Nat) (hx : a.eval x = .slice A k c) (hr : Rd w A k c m) (hsz : l.length + m.length ≤ 17592186044416) (hbase : base ≤ w.heap.size)
    (h : ∀ v' w', Own32 w' base e v' (l ++ m) → w.grownBy w' v.ownBlock → (v'.ownBlock = v.ownBlock ∨ v'.ownBlock = some w.heap.size) → wpList P ops Q rest (a.put o.dst v') w') : wpList P ops Q (o :: rest) a w :=
  wpList_plain hgd fun _ hK => by
    obtain ⟨v', w', hrun, h2, h3, h4⟩ := run_append_rd (P := P) w t o.type e ht hinf base v l m hown A k c hr hsz hbase
    unfold Oper.wp execOp
    simp only [ho, resolve, invoke, builtin, Sem.run_bind, Sem.run_pure, Result.andThen_ok, List.map_toArray, List.map_cons, List.map_nil, hs, hx, hrun]
    exact hK _ _ (h v' w' h2 h3 h4)

theorem wpListIn_append_rd {F : Fence} {n : Nat} {P : Program} {w : World} {ops : Array Oper} {rest : List Oper} {o : Oper} {a : Act} {Q : Exit → Act → World → Prop} (hgd : o.guard = none) (s x : Operand) (t e : TypeId)
    (ho : o.op = .call { callee := .builtin .append, args := #[s, x], argTypes := #[t, t] })
    (ht : P.underlying t = some (.slice e)) (hinf : (P.info? e).map (fun i => (i.zero, i.size, i.bytes)) = some (some (.int .u32 0), 1, 4))
    (base : Nat) (v : Value) (l : List Nat) (hs : a.eval s = v) (hown : Own32 w base e v l)
    (A : Option Addr) (k c : Nat) (m : List Nat) (hx : a.eval x = .slice A k c) (hr : Rd w A k c m) (hsz : l.length + m.length ≤ 17592186044416) (hbase : base ≤ w.heap.size)
    (h : ∀ v' w', Own32 w' base e v' (l ++ m) → w.grownBy w' v.ownBlock → (v'.ownBlock = v.ownBlock ∨ v'.ownBlock = some w.heap.size) → wpListIn F n P ops Q rest (a.put o.dst v') w') : wpListIn F n P ops Q (o :: rest) a w := by
  refine wpListIn_plain hgd fun K hK' => ?_
  obtain ⟨v', w', hrun, h2, h3, h4⟩ := run_append_rd (P := P) w t o.type e ht hinf base v l m hown A k c hr hsz hbase
  unfold Oper.wpIn
  refine ⟨?_, ?_⟩
  · simp [Oper.about, ho, resolve, Target.leads, Sem.run_pure]
  · rw [Oper.semAt_plain F _ _ (by rw [ho]; intro c hc'; cases hc')]
    simp [execOp, ho, resolve, invoke, builtin, hs, hx, hrun, Result.andThen]
    exact hK' _ _ (h v' w' h2 h3 h4)

/-! ### what abides a turn of a block that is no cells, and what only makes memory -/
theorem Mk.grown {W1 W2 : World} (h : Mk W1 W2) : W1.grownBy W2 none := ⟨h.os, h.tape, h.output, h.size, fun k hk _ => h.block k hk⟩
theorem abide_mk {I : Nat → World → Prop} {B : Nat} (h : OwnFrom B I) (k : Nat) (W1 W2 : World) (hi : I k W1) (hm : Mk W1 W2) : I k W2 := h k W1 W2 none hi hm.grown (fun r e => by cases e)
theorem boxed_abide {W W' : World} {row : Option Nat} {B C : Nat} {t : TypeId} {v : Value} (h : Boxed W B t v) (hg : W.grownBy W' row) (hr : ∀ r, row = some r → C ≤ r ∧ ∃ o : Obj, W.heap[r]? = some o ∧ o.isCells = false) : Boxed W' B t v :=
  h.kept hg fun e => by
    obtain ⟨_, o, ho, hc⟩ := hr B e.symm
    rw [show W.heap[B]? = _ from h] at ho
    cases ho
    cases hc
theorem own_abide {W W' : World} {row : Option Nat} {C base : Nat} {e : TypeId} {size n : Nat} {v : Value} {xs : List Value} (h : W.ownsRow base e size v n xs) (hg : W.grownBy W' row) (hr : ∀ r, row = some r → C ≤ r ∧ ∃ o : Obj, W.heap[r]? = some o ∧ o.isCells = false) : W'.ownsRow base e size v n xs := by
  refine h.kept hg ?_
  rcases h.2 with ⟨rfl, _⟩ | ⟨g, cap, cur, rfl, _, hh, _⟩
  · exact .inl rfl
  · right
    intro e'
    obtain ⟨_, o, ho, hc⟩ := hr g (by simpa [Value.ownBlock] using e'.symm)
    rw [hh] at ho
    cases ho
    cases hc
theorem below_abide {w W W' : World} {row : Option Nat} {B C : Nat} (h : Below B w W) (hg : W.grownBy W' row) (hB : B ≤ w.heap.size) (hC : B ≤ C) (hr : ∀ r, row = some r → C ≤ r ∧ ∃ o : Obj, W.heap[r]? = some o ∧ o.isCells = false) : Below B w W' :=
  h.grown hg (Nat.le_trans hB h.size) fun k e => Nat.le_trans hC (hr k e).1
theorem Rd.other {w : World} {A : Option Addr} {n c : Nat} {l : List Nat} (h : Rd w A n c l) {D : Nat} {o : Obj} (o' : Obj) (hD : w.heap[D]? = some o) (ho : o.isCells = false) : Rd (w.putObj D o') A n c l :=
  ⟨h.len, h.le, h.cap, h.nil, fun i hi => by
    obtain ⟨b, off, e, hc⟩ := h.cells i hi
    refine ⟨b, off, e, (World.cell?_of_block (World.putObj_heap_other ?_)).trans hc⟩
    intro hb
    obtain ⟨q, hq, hcq⟩ := cells_of_cell hc
    simp only at hq hb
    rw [hb, hD] at hq
    cases hq
    rw [ho] at hcq
    cases hcq⟩
theorem below_other {w W : World} {B D : Nat} (h : Below B w W) (o : Obj) (hB : B ≤ W.heap.size) (hD : B ≤ D) : Below B w (W.putObj D o) :=
  h.grown (grownBy_putObj' W D o) hB fun k e => by cases e; exact hD

theorem Rd.one' (w : World) (z : Int) (x : Nat) (t : TypeId) (hz : z = x) : Rd (w.alloc (.cells #[.int .u32 z] t)) (some ⟨w.heap.size, 0, none⟩) 1 1 [x] := by
  subst hz
  exact Rd.new w [x] t _ rfl (by simp)

theorem le_alloc {B : Nat} {W : World} (h : B ≤ W.heap.size) (o : Obj) : B ≤ (W.alloc o).heap.size := by simp; omega

/-- Another box lies on behind such an append. -/
theorem beside32 {W w1 : World} {n₀ B : Nat} {t e : TypeId} {u v : Value} {l : List Nat} {tmp : Obj} (hte : t ≠ e) (hu : Boxed W B t u) (hrow : Own32 W n₀ e v l) (hgrow : (W.alloc tmp).grownBy w1 v.ownBlock) : Boxed w1 B t u :=
  (hu.alloc tmp).kept hgrow (hu.not_row hte hrow)

/-- Such an append turns nothing that is no cells. -/
theorem keepsOthers32 {W w1 : World} {base : Nat} {e : TypeId} {v : Value} {l : List Nat} {tmp : Obj} (hrow : Own32 W base e v l) (hgrow : (W.alloc tmp).grownBy w1 v.ownBlock) : KeepsOthers W w1 := by
  refine (KeepsOthers.alloc W tmp).trans (KeepsOthers.of_grownBy hgrow fun j o ej hj => ?_)
  rcases (World.ownsRow.alloc hrow tmp).2 with ⟨rfl, _⟩ | ⟨g, cap, cur, rfl, _, hgb, _⟩
  · simp [Value.ownBlock] at ej
  · obtain rfl : g = j := by simpa [Value.ownBlock] using ej
    rw [hgb] at hj; cases hj; rfl
/-- 'out = append(out, x)' where out lies in a box: what holds behind the append, and behind the store. -/
theorem append32 {W w1 : World} {n₀ base B : Nat} {t e : TypeId} {v v' : Value} {l l' : List Nat} {tmp : Obj} (hte : t ≠ e) (hv : Boxed W B t v) (hrow : Own32 W base e v l) (hn₀ : n₀ ≤ W.heap.size) (hB : n₀ ≤ B) (hb : n₀ ≤ base)
    (hown' : Own32 w1 base e v' l') (hgrow : (W.alloc tmp).grownBy w1 v.ownBlock) :
    Boxed w1 B t v ∧ Boxed (w1.setCell ⟨B, 0, none⟩ v') B t v' ∧ Own32 (w1.setCell ⟨B, 0, none⟩ v') base e v' l' ∧ KeepsOthers W (w1.setCell ⟨B, 0, none⟩ v') ∧ Below n₀ W (w1.setCell ⟨B, 0, none⟩ v') := by
  have hv1 : Boxed w1 B t v := beside32 hte hv hrow hgrow
  refine ⟨hv1, hv1.set v', World.ownsRow.kept hown' (grownBy_setCell' w1 B v') (.inr (hv1.not_row hte hown').symm), ?_, ?_⟩
  · refine ((KeepsOthers.alloc W tmp).trans (KeepsOthers.of_grownBy hgrow fun j o ej hj => ?_)).trans (KeepsOthers.setCell _ _ _)
    rcases (World.ownsRow.alloc hrow tmp).2 with ⟨rfl, _⟩ | ⟨g, cap, cur, rfl, _, hgb, _⟩
    · simp [Value.ownBlock] at ej
    · obtain rfl : g = j := by simpa [Value.ownBlock] using ej
      rw [hgb] at hj; cases hj; rfl
  · refine (((Below.refl n₀ W).alloc hn₀ tmp).grown hgrow (by simp; omega) fun j ej => ?_).setCell (p := ⟨B, 0, none⟩) hB v'
    have := (World.ownsRow.lt hrow j ej).1
    omega

/-! ### blocks of which a part is kept -/
def KeepS (S : Nat → Prop) (W1 W2 : World) : Prop := ∀ b, S b → W2.heap[b]? = W1.heap[b]?
theorem KeepS.refl (S : Nat → Prop) (W : World) : KeepS S W W := fun _ _ => rfl
theorem KeepS.trans {S : Nat → Prop} {A B C : World} (h : KeepS S A B) (k : KeepS S B C) : KeepS S A C := fun b hb => (k b hb).trans (h b hb)
theorem KeepS.drew {S : Nat → Prop} {A B : World} (h : KeepS S A B) : KeepS S A B.drew := h
theorem KeepS.of_below {S : Nat → Prop} {A B : World} {n : Nat} (h : Below n A B) (hS : ∀ b, S b → b < n) : KeepS S A B := fun b hb => h.block b (hS b hb)
theorem KeepS.setCell {S : Nat → Prop} {A B : World} (h : KeepS S A B) {p : Addr} (hp : ¬ S p.block) (u : Value) : KeepS S A (B.setCell p u) :=
  fun b hb => (Below.heap_setCell B p u b (fun e => hp (by rw [← e]; exact hb))).trans (h b hb)
theorem KeepS.putObj {S : Nat → Prop} {A B : World} (h : KeepS S A B) {l : Nat} (hl : ¬ S l) (o : Obj) : KeepS S A (B.putObj l o) :=
  fun b hb => (World.putObj_heap_other (fun e => hl (by rw [← e]; exact hb))).trans (h b hb)
theorem KeepS.grown {S : Nat → Prop} {A B C : World} (h : KeepS S A B) {row : Option Nat} (hg : B.grownBy C row) (hS : ∀ b, S b → b < B.heap.size ∧ some b ≠ row) : KeepS S A C :=
  fun b hb => (hg.block b (hS b hb).1 (hS b hb).2).trans (h b hb)
theorem KeepS.alloc {S : Nat → Prop} {A B : World} (h : KeepS S A B) (hS : ∀ b, S b → b < B.heap.size) (o : Obj) : KeepS S A (B.alloc o) :=
  fun b hb => (Below.heap_alloc B o b (hS b hb)).trans (h b hb)
theorem keepS_b {S : Nat → Prop} {n : Nat} (hS : ∀ b, S b → b < n) (W : World) (l : Nat) (o o' : Obj) (hl : n ≤ l) (_ : W.heap[l]? = some o) (_ : o.isCells = false) : KeepS S W (W.putObj l o') :=
  (KeepS.refl S W).putObj (fun h => by have := hS l h; omega) o'
theorem KeepS.cell {S : Nat → Prop} {A B : World} (h : KeepS S A B) {p : Addr} (hp : S p.block) : B.cell? p = A.cell? p := World.cell?_of_block (h p.block hp)
theorem KeepS.boxed {S : Nat → Prop} {A B : World} (h : KeepS S A B) {b : Nat} {t : TypeId} {v : Value} (hb : S b) (hv : Boxed A b t v) : Boxed B b t v := (h b hb).trans hv
theorem Rd.keepS {S : Nat → Prop} {A B : World} {a : Option Addr} {n c : Nat} {l : List Nat} (h : Rd A a n c l) (hk : KeepS S A B) (hS : ∀ b o, 0 < n → a = some ⟨b, o, none⟩ → S b) : Rd B a n c l :=
  ⟨h.len, h.le, h.cap, h.nil, fun i hi => by
    obtain ⟨b, o, e, hc⟩ := h.cells i hi
    exact ⟨b, o, e, (hk.cell (p := ⟨b, o + i, none⟩) (hS b o (by omega) e)).trans hc⟩⟩
theorem Rd.in_ {w : World} {A : Option Addr} {n c : Nat} {l : List Nat} (h : Rd w A n c l) (b o : Nat) (hn : 0 < n) (e : A = some ⟨b, o, none⟩) : b < w.heap.size := by
  obtain ⟨b', o', e', hlt, _⟩ := h.shape hn
  rw [e] at e'
  cases e'
  exact hlt
/-- Such an append keeps the other blocks. -/
theorem keepS32 {S : Nat → Prop} {W w1 : World} {B : Nat} {v v' : Value} {tmp : Obj} (hgrow : (W.alloc tmp).grownBy w1 v.ownBlock) (hS : ∀ b, S b → b < W.heap.size ∧ some b ≠ v.ownBlock) (hB : ¬ S B) : KeepS S W (w1.setCell ⟨B, 0, none⟩ v') :=
  ((((KeepS.refl S W).alloc (fun b hb => (hS b hb).1) tmp).grown hgrow (fun b hb => ⟨by have := (hS b hb).1; simp; omega, (hS b hb).2⟩)).setCell (p := ⟨B, 0, none⟩) hB v')
theorem Own32.other {W : World} {base : Nat} {e : TypeId} {v : Value} {l : List Nat} (h : Own32 W base e v l) {B : Nat} {t : TypeId} {u : Value} (hu : Boxed W B t u) (hte : t ≠ e) (u' : Value) : Own32 (W.setCell ⟨B, 0, none⟩ u') base e v l :=
  World.ownsRow.kept h (grownBy_setCell' _ _ _) (.inr (hu.not_row hte h).symm)
theorem Own32.not_in {W : World} {base : Nat} {e : TypeId} {v : Value} {l : List Nat} (h : Own32 W base e v l) {b : Nat} (hb : b < base) : some b ≠ v.ownBlock := fun e => by
  have := (World.ownsRow.lt h b e.symm).1; omega

theorem size_setCell (W : World) (p : Addr) (u : Value) : W.heap.size = (W.setCell p u).heap.size := by
  show W.heap.size = (W.heap.modify _ _).size
  rw [Array.size_modify]
theorem Rd.oneAt (w : World) (x : Nat) (t : TypeId) {b : Nat} (hb : b = w.heap.size) : Rd (w.alloc (.cells #[.int .u32 (x : Int)] t)) (some ⟨b, 0, none⟩) 1 1 [x] := by
  subst hb
  exact Rd.new w [x] t _ rfl (by simp)
/-- One limb in a new block. -/
theorem Rd.one (w : World) (x : Nat) (t : TypeId) : Rd (w.alloc (.cells #[.int .u32 (x : Int)] t)) (some ⟨w.heap.size, 0, none⟩) 1 1 [x] :=
  ⟨rfl, by omega, by omega, fun e => (by cases e), fun i hi => ⟨w.heap.size, 0, rfl, by
    have : i = 0 := by omega
    subst this
    show (w.alloc (.cells #[.int .u32 (x : Int)] t)).cell? ⟨w.heap.size, 0, none⟩ = some (.int .u32 (x : Int))
    unfold World.cell?
    rw [World.alloc_heap_new]
    rfl⟩⟩
end Go.Proofs.Wd
