/- Marks of range-over-function loops among an activation's deferred calls, and how such a function returns; a slice of slices of limbs. -/
import Derived.Test.YtghgemeclgpibaaDoorRange
namespace Go.Proofs.Wd
open Go.RowKit Lb

def mark (D : Nat) : Deferred := { target := .collected D, args := #[] }
/-- All that is deferred are marks, whose blocks lie from B on, all different, not taken. -/
structure Marks (B : Nat) (W : World) (ds : List Deferred) (Ds : List Nat) : Prop where
  eq : ds = Ds.map mark
  nodup : Ds.Nodup
  at_ : ∀ D, D ∈ Ds → B ≤ D ∧ W.heap[D]? = some (.deferred (some []))

theorem Marks.nil (B : Nat) (W : World) : Marks B W [] [] := ⟨rfl, List.nodup_nil, fun D h => by cases h⟩
theorem Marks.keep {B : Nat} {W W' : World} {ds : List Deferred} {Ds : List Nat} (h : Marks B W ds Ds) (hk : ∀ (k : Nat) (o : Obj), W.heap[k]? = some o → o.isCells = false → W'.heap[k]? = some o) : Marks B W' ds Ds :=
  ⟨h.eq, h.nodup, fun D hD => ⟨(h.at_ D hD).1, hk _ _ (h.at_ D hD).2 rfl⟩⟩
theorem Marks.others {B : Nat} {W W' : World} {ds : List Deferred} {Ds : List Nat} (h : Marks B W ds Ds) (hk : KeepsOthers W W') : Marks B W' ds Ds := h.keep hk.same
theorem Marks.made {B : Nat} {W W' : World} {ds : List Deferred} {Ds : List Nat} (h : Marks B W ds Ds) (hk : Below W.heap.size W W') : Marks B W' ds Ds :=
  h.keep fun k _ ho _ => (hk.block k (Array.getElem?_eq_some_iff.1 ho).1).trans ho
theorem Marks.lt {B : Nat} {W : World} {ds : List Deferred} {Ds : List Nat} (h : Marks B W ds Ds) : ∀ D, D ∈ Ds → D < W.heap.size := fun D hD => (Array.getElem?_eq_some_iff.1 (h.at_ D hD).2).1
theorem Marks.abide {B C : Nat} {W W' : World} {ds : List Deferred} {Ds : List Nat} {row : Option Nat} (h : Marks B W ds Ds) (hl : ∀ D, D ∈ Ds → D < C) (hg : W.grownBy W' row) (hr : ∀ r, row = some r → C ≤ r ∧ ∃ o : Obj, W.heap[r]? = some o ∧ o.isCells = false) : Marks B W' ds Ds :=
  ⟨h.eq, h.nodup, fun D hD => ⟨(h.at_ D hD).1, (hg.block D (h.lt D hD) (fun e => by have := (hr D e.symm).1; have := hl D hD; omega)).trans (h.at_ D hD).2⟩⟩
theorem Marks.more {B : Nat} {W : World} {ds : List Deferred} {Ds : List Nat} (h : Marks B W ds Ds) {D : Nat} (hn : D ∉ Ds) (hB : B ≤ D) (hD : W.heap[D]? = some (.deferred (some []))) : Marks B W ({ target := .collected D, args := #[] } :: ds) (D :: Ds) :=
  ⟨by rw [h.eq]; rfl, List.nodup_cons.2 ⟨hn, h.nodup⟩, fun E hE => by
    rcases List.mem_cons.1 hE with rfl | hE
    · exact ⟨hB, hD⟩
    · exact h.at_ E hE⟩

/-- Only blocks from B on that are no cells have turned. -/
structure Oth (B : Nat) (w w' : World) : Prop where
  os : w'.os = w.os
  tape : w'.tape = w.tape
  output : w'.output = w.output
  size : w'.heap.size = w.heap.size
  block : ∀ k, w'.heap[k]? = w.heap[k]? ∨ (B ≤ k ∧ (∃ o, w.heap[k]? = some o ∧ o.isCells = false) ∧ ∃ o, w'.heap[k]? = some o ∧ o.isCells = false)
theorem Oth.refl (B : Nat) (w : World) : Oth B w w := ⟨rfl, rfl, rfl, rfl, fun _ => .inl rfl⟩
theorem cell_none {w : World} {a : Addr} {o : Obj} (h : w.heap[a.block]? = some o) (hc : o.isCells = false) : w.cell? a = none := by
  unfold World.cell?
  rw [h]
  cases o <;> simp_all [Obj.isCells]
theorem Oth.cell {B : Nat} {w w' : World} (h : Oth B w w') (a : Addr) : w'.cell? a = w.cell? a := by
  rcases h.block a.block with e | ⟨_, ⟨o, ho, hc⟩, o', ho', hc'⟩
  · exact World.cell?_of_block e
  · rw [cell_none ho hc, cell_none ho' hc']
theorem Rd.oth {B : Nat} {w w' : World} {A : Option Addr} {n c : Nat} {l : List Nat} (h : Rd w A n c l) (ho : Oth B w w') : Rd w' A n c l := h.keep fun _ _ => ho.cell _
theorem below_oth {B C : Nat} {w W W' : World} (h : Below C w W) (ho : Oth B W W') (hC : C ≤ B) : Below C w W' :=
  ⟨ho.os.trans h.os, ho.tape.trans h.tape, ho.output.trans h.output, by rw [ho.size]; exact h.size, fun k hk => by
    rcases ho.block k with e | ⟨hb, _⟩
    · exact e.trans (h.block k hk)
    · omega⟩
theorem Oth.put {B D : Nat} {w w' : World} (h : Oth B w w') (hB : B ≤ D) (hD : w'.heap[D]? = some (.deferred (some []))) : Oth B w (w'.putObj D (.deferred none)) :=
  ⟨h.os, h.tape, h.output, by rw [World.putObj_size]; exact h.size, fun k => by
    by_cases e : k = D
    · subst e
      refine .inr ⟨hB, ?_, _, World.putObj_heap_same (Array.getElem?_eq_some_iff.1 hD).1, rfl⟩
      rcases h.block k with e | ⟨_, hh, _⟩
      · exact ⟨_, e.symm.trans hD, rfl⟩
      · exact hh
    · rw [World.putObj_heap_other e]
      exact h.block k⟩

/-- How a function with such marks returns. -/
theorem leaves_marks {P : Program} {fn : Func} {tmps : Array Value} {R : Ending → World → Prop} {B : Nat} {v : Value} (w : World) (hres : ∀ w', Oth B w w' → (results fn tmps).run P w' = .ok v w') :
    ∀ (Ds : List Nat) (ds : List Deferred) (w1 : World), Marks B w1 ds Ds → Oth B w w1 → (∀ w', Oth B w w' → R (.returned v) w') → LeavesInM Fence.wide 0 P fn tmps R ds .returning w1
  | [], ds, w1, hm, ho, hR => by
    obtain rfl : ds = [] := hm.eq
    exact ⟨v, hres w1 ho, hR w1 ho⟩
  | D :: Ds, ds, w1, hm, ho, hR => by
    obtain rfl : ds = mark D :: Ds.map mark := hm.eq
    have hD := hm.at_ D (List.mem_cons_self ..)
    refine ⟨by simp, .inl ⟨_, _, rfl, run_takeDeferred hD.2, ?_⟩⟩
    refine leaves_marks w hres Ds _ _ ⟨rfl, (List.nodup_cons.1 hm.nodup).2, fun E hE => ⟨(hm.at_ E (List.mem_cons_of_mem _ hE)).1, ?_⟩⟩ (ho.put hD.1 hD.2) hR
    have hne : E ≠ D := fun e => (List.nodup_cons.1 hm.nodup).1 (by rw [← e]; exact hE)
    rw [World.putObj_heap_other hne]
    exact (hm.at_ E (List.mem_cons_of_mem _ hE)).2

theorem Boxed.oth {B : Nat} {w w' : World} {b : Nat} {t : TypeId} {v : Value} (h : Boxed w b t v) (ho : Oth B w w') : Boxed w' b t v := by
  rcases ho.block b with e | ⟨_, ⟨o, h1, h2⟩, _⟩
  · exact e.trans h
  · rw [show w.heap[b]? = _ from h] at h1
    cases h1
    cases h2
theorem boxed_at (W : World) (t : TypeId) (v : Value) {b : Nat} (hb : b = W.heap.size) : Boxed (W.alloc (.cells #[v] t)) b t v := by
  subst hb
  exact Boxed.new W t v

/-- A slice of slices of limbs. -/
structure Rds (w : World) (A : Option Addr) (n : Nat) (ls : List (List Nat)) : Prop where
  len : ls.length = n
  cells : ∀ i, i < n → ∃ b o Ai ni ci li, A = some ⟨b, o, none⟩ ∧ w.cell? ⟨b, o + i, none⟩ = some (.slice Ai ni ci) ∧ ls[i]? = some li ∧ Rd w Ai ni ci li ∧ Lt li ∧ ni ≤ 68719476736
theorem Rds.below {w w' : World} {A : Option Addr} {n : Nat} {ls : List (List Nat)} (h : Rds w A n ls) (hb : Below w.heap.size w w') : Rds w' A n ls :=
  ⟨h.len, fun i hi => by
    obtain ⟨b, o, Ai, ni, ci, li, e, hc, h1, h2, h3⟩ := h.cells i hi
    exact ⟨b, o, Ai, ni, ci, li, e, (hb.cell (p := ⟨b, o + i, none⟩) (lt_of_cell hc)).trans hc, h1, h2.below hb, h3⟩⟩
theorem cell_new (w : World) (cs : Array Value) (t : TypeId) (i : Nat) : (w.alloc (.cells cs t)).cell? ⟨w.heap.size, i, none⟩ = cs[i]? := by
  have hh : (w.alloc (.cells cs t)).heap[w.heap.size]? = some (.cells cs t) := heap_alloc_new w _
  unfold World.cell?
  rw [hh]
  rfl
theorem Rds.one {w : World} {A : Option Addr} {n c : Nat} {l : List Nat} (h : Rd w A n c l) (ht : Lt l) (hn : n ≤ 68719476736) (t : TypeId) :
    Rds (w.alloc (.cells #[.slice A n c] t)) (some ⟨w.heap.size, 0, none⟩) 1 [l] :=
  ⟨rfl, fun i hi => by
    obtain rfl : i = 0 := by omega
    exact ⟨_, _, A, n, c, l, rfl, cell_new w _ t 0, rfl, h.alloc _, ht, hn⟩⟩
theorem Rds.two {w : World} {A : Option Addr} {n c : Nat} {l : List Nat} (h : Rd w A n c l) (ht : Lt l) (hn : n ≤ 68719476736) {A' : Option Addr} {n' c' : Nat} {l' : List Nat} (h' : Rd w A' n' c' l') (ht' : Lt l') (hn' : n' ≤ 68719476736) (t : TypeId) :
    Rds (w.alloc (.cells #[.slice A n c, .slice A' n' c'] t)) (some ⟨w.heap.size, 0, none⟩) 2 [l, l'] :=
  ⟨rfl, fun i hi => by
    rcases (by omega : i = 0 ∨ i = 1) with rfl | rfl
    · exact ⟨_, _, A, n, c, l, rfl, cell_new w _ t 0, rfl, h.alloc _, ht, hn⟩
    · exact ⟨_, _, A', n', c', l', rfl, cell_new w _ t 1, rfl, h'.alloc _, ht', hn'⟩⟩
theorem Rds.three {w : World} {A : Option Addr} {n c : Nat} {l : List Nat} (h : Rd w A n c l) (ht : Lt l) (hn : n ≤ 68719476736) {A' : Option Addr} {n' c' : Nat} {l' : List Nat} (h' : Rd w A' n' c' l') (ht' : Lt l') (hn' : n' ≤ 68719476736)
    {A'' : Option Addr} {n'' c'' : Nat} {l'' : List Nat} (h'' : Rd w A'' n'' c'' l'') (ht'' : Lt l'') (hn'' : n'' ≤ 68719476736) (t : TypeId) :
    Rds (w.alloc (.cells #[.slice A n c, .slice A' n' c', .slice A'' n'' c''] t)) (some ⟨w.heap.size, 0, none⟩) 3 [l, l', l''] :=
  ⟨rfl, fun i hi => by
    rcases (by omega : i = 0 ∨ i = 1 ∨ i = 2) with rfl | rfl | rfl
    · exact ⟨_, _, A, n, c, l, rfl, cell_new w _ t 0, rfl, h.alloc _, ht, hn⟩
    · exact ⟨_, _, A', n', c', l', rfl, cell_new w _ t 1, rfl, h'.alloc _, ht', hn'⟩
    · exact ⟨_, _, A'', n'', c'', l'', rfl, cell_new w _ t 2, rfl, h''.alloc _, ht'', hn''⟩⟩
end Go.Proofs.Wd
