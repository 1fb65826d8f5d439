/- An open region whose operations' results are known by facts that stay: whatever the order, all facts hold behind it. -/
import Derived.Test.YtghgemeclgpibaaDoorOrder
namespace Go.Proofs.Wd
open Go.RowKit Lb

section
variable {F : Fence} {n : Nat} {P : Program} {ops : Array Oper} {Q : Exit → Act → World → Prop}

/-- Each operation waits for earlier ones alone. -/
def earlierOps (ops : Array Oper) : Bool := (List.range ops.size).all fun i => match ops[i]? with
  | none => true
  | some o => o.after.all fun e => decide (e.on < i)
/-- No two operations write one slot. -/
def apartDst (ops : Array Oper) : Bool := (List.range ops.size).all fun i => (List.range ops.size).all fun j => i == j || match ops[i]?.bind (·.dst), ops[j]?.bind (·.dst) with
  | some t, some u => t != u
  | _, _ => true
def isDst (ops : Array Oper) (t : Tmp) : Bool := ops.toList.any fun o => o.dst == some t
/-- All slots written lie in the frame. -/
def inFrame (ops : Array Oper) (k : Nat) : Bool := ops.all fun o => match o.dst with
  | none => true
  | some t => decide (t < k)

theorem earlierOps_spec (h : earlierOps ops = true) {i : Nat} {o : Oper} (hi : ops[i]? = some o) {e} (he : e ∈ o.after) : e.on < i := by
  have hl := (Array.getElem?_eq_some_iff.1 hi).1
  have h1 := List.all_eq_true.1 h i (List.mem_range.2 hl)
  rw [hi] at h1
  have h2 := Array.all_eq_true_iff_forall_mem.1 h1 e he
  simpa using h2
theorem apartDst_spec (h : apartDst ops = true) {i j : Nat} {oi oj : Oper} (hi : ops[i]? = some oi) (hj : ops[j]? = some oj) (hne : i ≠ j) {t : Tmp} (ht : oi.dst = some t) : oj.dst ≠ some t := by
  intro hu
  have h1 := List.all_eq_true.1 h i (List.mem_range.2 (Array.getElem?_eq_some_iff.1 hi).1)
  have h2 := List.all_eq_true.1 h1 j (List.mem_range.2 (Array.getElem?_eq_some_iff.1 hj).1)
  rw [hi, hj] at h2
  simp [ht, hu, hne] at h2
theorem isDst_spec {i : Nat} {o : Oper} (hi : ops[i]? = some o) {t : Tmp} (ht : o.dst = some t) : isDst ops t = true := by
  unfold isDst
  exact List.any_eq_true.2 ⟨o, by simpa using Array.mem_of_getElem? hi, by simp [ht]⟩
theorem inFrame_spec {k : Nat} (h : inFrame ops k = true) {i : Nat} {o : Oper} (hi : ops[i]? = some o) {t : Tmp} (ht : o.dst = some t) : t < k := by
  have := Array.all_eq_true_iff_forall_mem.1 h o (Array.mem_of_getElem? hi)
  rw [ht] at this
  simpa using this

theorem getD_setv {xs : Array Value} {i j : Nat} {v : Value} (h : i ≠ j) : (xs.setIfInBounds i v).getD j undef = xs.getD j undef := by
  rw [Array.getD_eq_getD_getElem?, Array.getD_eq_getD_getElem?, Array.getElem?_setIfInBounds_ne h]

/-- What is known of a frame in which the operations of S have run. -/
structure FlowAt (ops : Array Oper) (E : Nat → Value → World → Prop) (C : World → Prop) (a0 : Act) (S : Nat → Prop) (a : Act) (w : World) : Prop where
  cls : C w
  size : a.tmps.size = a0.tmps.size
  defers : a.defers = a0.defers
  keep : ∀ t, isDst ops t = false → a.tmps.getD t undef = a0.tmps.getD t undef
  vals : ∀ i o t, S i → ops[i]? = some o → o.dst = some t → E i (a.tmps.getD t undef) w

variable {E : Nat → Value → World → Prop} {C : World → Prop} {a0 : Act}

theorem FlowAt.mono {S S' : Nat → Prop} {a : Act} {w : World} (h : FlowAt ops E C a0 S a w) (hs : ∀ i, S' i → S i) : FlowAt ops E C a0 S' a w :=
  ⟨h.cls, h.size, h.defers, h.keep, fun i o t hi => h.vals i o t (hs i hi)⟩

theorem FlowAt.put (hap : apartDst ops = true) (hfr : inFrame ops a0.tmps.size = true) (hC : ∀ w w', C w → Below w.heap.size w w' → C w') (hE : ∀ i v w w', E i v w → Below w.heap.size w w' → E i v w')
    {S : Nat → Prop} {a : Act} {w w' : World} (h : FlowAt ops E C a0 S a w) {i : Nat} {o : Oper} (hi : ops[i]? = some o) {v : Value} (hv : E i v w') (hb : Below w.heap.size w w') : FlowAt ops E C a0 (fun j => S j ∨ j = i) (a.put o.dst v) w' := by
  refine ⟨hC _ _ h.cls hb, ?_, ?_, ?_, ?_⟩
  · rw [← h.size]
    unfold Act.put
    cases o.dst <;> simp
  · rw [← h.defers]
    unfold Act.put
    cases o.dst <;> rfl
  · intro t ht
    rw [← h.keep t ht]
    unfold Act.put
    cases hd : o.dst with
    | none => rfl
    | some d =>
      have hne : d ≠ t := fun e => by subst e; rw [isDst_spec hi hd] at ht; cases ht
      exact getD_setv hne
  · intro j oj t hj hoj ht
    by_cases hji : j = i
    · subst hji
      rw [hi] at hoj
      cases hoj
      have hlt := inFrame_spec hfr hi ht
      unfold Act.put
      rw [ht]
      show E j ((a.tmps.setIfInBounds t v).getD t undef) w'
      rw [Array.getD_eq_getD_getElem?, Array.getElem?_setIfInBounds_self_of_lt (by rw [h.size]; exact hlt)]
      exact hv
    · have hS : S j := hj.resolve_right hji
      have h1 := hE _ _ _ _ (h.vals j oj t hS hoj ht) hb
      have hne : ∀ d, o.dst = some d → d ≠ t := fun d hd e => by subst e; exact apartDst_spec hap hi hoj (Ne.symm hji) hd ht
      unfold Act.put
      cases hd : o.dst with
      | none => exact h1
      | some d =>
        show E j ((a.tmps.setIfInBounds d v).getD t undef) w'
        rw [getD_setv (hne d hd)]
        exact h1

theorem count_listed {listed : Array Bool} {i : Nat} (h : listed.getD i true = false) : (listed.setIfInBounds i true).count false + 1 = listed.count false := by
  have hlt : i < listed.size := by
    rcases Nat.lt_or_ge i listed.size with e | e
    · exact e
    · simp [Array.getElem?_eq_none e] at h
  have hv : listed[i] = false := by simpa [hlt] using h
  rw [Array.setIfInBounds, dif_pos hlt, Array.count_set]
  have hpos : 0 < listed.count false := Array.count_pos_iff.2 (by rw [← hv]; exact Array.getElem_mem hlt)
  simp [hv]
  omega

theorem flow (hear : earlierOps ops = true) (hap : apartDst ops = true) (hfr : inFrame ops a0.tmps.size = true) (hC : ∀ w w', C w → Below w.heap.size w w' → C w') (hE : ∀ i v w w', E i v w → Below w.heap.size w w' → E i v w')
    (hspec : ∀ i o, ops[i]? = some o → ∀ a w, FlowAt ops E C a0 (fun j => ∃ e ∈ o.after, Region.binds .any e = true ∧ e.on = j) a w → ∀ K : Act → World → Prop, (∀ v w', E i v w' → Below w.heap.size w w' → K (a.put o.dst v) w') → wpOpIn F n P ops Q i K a w)
    (hfin : ∀ a w, FlowAt ops E C a0 (fun i => i < ops.size) a w → Q .normal a w) :
    ∀ (fuel : Nat) (listed : Array Bool) (a : Act) (w : World), listed.count false = fuel → listed.size = ops.size → FlowAt ops E C a0 (fun i => listed.getD i false = true) a w → wpAnyIn F n P .any ops Q fuel listed a w := by
  intro fuel
  induction fuel with
  | zero =>
    intro listed a w hc hs hf
    have hno : ∀ i, listed.getD i true = true := fun i => by
      cases hg : listed.getD i true with
      | true => rfl
      | false =>
        have := count_listed hg
        omega
    refine ⟨List.eq_nil_iff_forall_not_mem.2 fun j hj => ?_, hfin a w (hf.mono fun i hi => ?_)⟩
    · have h1 := (mem_ready.1 hj).1
      rw [hno j] at h1
      cases h1
    · have h1 := hno i
      have hlt : i < listed.size := by rw [hs]; exact hi
      simp [hlt] at h1 ⊢
      exact h1
  | succ fuel ih =>
    intro listed a w hc hs hf
    have hsome : ∀ i, listed.getD i true = false → Region.ready .any ops listed ≠ [] := by
      intro i
      induction i using Nat.strongRecOn with
      | _ i ihi =>
        intro hi hnil
        have hlt : i < listed.size := by
          rcases Nat.lt_or_ge i listed.size with e | e
          · exact e
          · simp [Array.getElem?_eq_none e] at hi
        have ho : ops[i]? = some (ops[i]'(by rw [← hs]; exact hlt)) := Array.getElem?_eq_getElem _
        by_cases hall : ∀ e ∈ (ops[i]'(by rw [← hs]; exact hlt)).after, Region.binds .any e = true → listed.getD e.on false = true
        · have hm : i ∈ Region.ready .any ops listed := mem_ready.2 ⟨hi, _, ho, hall⟩
          rw [hnil] at hm
          cases hm
        · simp only [Classical.not_forall] at hall
          obtain ⟨e, he, hb, hg⟩ := hall
          have hel := earlierOps_spec hear ho he
          refine ihi e.on hel ?_ hnil
          have hlt2 : e.on < listed.size := by omega
          simp [hlt2] at hg ⊢
          exact hg
    refine ⟨fun hnil => ?_, fun i hi => ?_⟩
    · exfalso
      have hmem : false ∈ listed := Array.count_pos_iff.1 (by omega)
      obtain ⟨i, hlt, hg⟩ := Array.getElem_of_mem hmem
      exact hsome i (by simp [hlt, hg]) hnil
    · obtain ⟨hun, o, ho, hall⟩ := mem_ready.1 hi
      refine hspec i o ho a w (hf.mono fun j hj => ?_) _ fun v w' hv hb => ?_
      · obtain ⟨e, he, hb, rfl⟩ := hj
        exact hall e he hb
      · refine ih (listed.setIfInBounds i true) (a.put o.dst v) w' ?_ (by simpa using hs) ((hf.put hap hfr hC hE ho hv hb).mono fun j hj => ?_)
        · have := count_listed hun
          omega
        · by_cases e : j = i
          · exact .inr e
          · left
            rwa [getD_set_ne false (Ne.symm e)] at hj

/-- A region that draws its order. -/
theorem wpIn_flow {id : Nat} {a : Act} {w : World} (E : Nat → Value → World → Prop) (C : World → Prop) (hm : P.follows .mixedOrders = true) (hear : earlierOps ops = true) (hap : apartDst ops = true) (hfr : inFrame ops a.tmps.size = true)
    (hC : ∀ w w', C w → Below w.heap.size w w' → C w') (hE : ∀ i v w w', E i v w → Below w.heap.size w w' → E i v w') (hw : C w.drew)
    (hspec : ∀ i o, ops[i]? = some o → ∀ b w, FlowAt ops E C a (fun j => ∃ e ∈ o.after, Region.binds .any e = true ∧ e.on = j) b w → ∀ K : Act → World → Prop, (∀ v w', E i v w' → Below w.heap.size w w' → K (b.put o.dst v) w') → wpOpIn F n P ops Q i K b w)
    (hfin : ∀ b w, FlowAt ops E C a (fun i => i < ops.size) b w → Q .normal b w) : (Code.region id ops true).wpIn F n P Q a w := by
  refine wpIn_region_any hm (flow hear hap hfr hC hE hspec hfin ops.size _ a _ ?_ (by simp) ⟨hw, rfl, rfl, fun _ _ => rfl, fun i o t hi => ?_⟩)
  · exact Array.count_replicate_self
  · exfalso
    rw [Array.getD_eq_getD_getElem?, Array.getElem?_replicate] at hi
    split at hi <;> cases hi

/-! ### the same from a state in which some operations have run -/
/-- An operation that has not run writes this slot. -/
def isDstL (ops : Array Oper) (listed0 : Array Bool) (t : Tmp) : Bool := (List.range ops.size).any fun i => !listed0.getD i true && (ops[i]?.bind (·.dst) == some t)
theorem isDstL_spec {listed0 : Array Bool} {i : Nat} {o : Oper} (hi : ops[i]? = some o) (hl : listed0.getD i true = false) {t : Tmp} (ht : o.dst = some t) : isDstL ops listed0 t = true := by
  unfold isDstL
  exact List.any_eq_true.2 ⟨i, List.mem_range.2 (Array.getElem?_eq_some_iff.1 hi).1, by rw [hl, hi]; simp [ht]⟩

/-- What is known of a frame in which the operations of S have run since. -/
structure FlowL (ops : Array Oper) (listed0 : Array Bool) (E : Nat → Value → World → Prop) (C : World → Prop) (a0 : Act) (S : Nat → Prop) (a : Act) (w : World) : Prop where
  cls : C w
  size : a.tmps.size = a0.tmps.size
  defers : a.defers = a0.defers
  keep : ∀ t, isDstL ops listed0 t = false → a.tmps.getD t undef = a0.tmps.getD t undef
  vals : ∀ i o t, S i → ops[i]? = some o → o.dst = some t → E i (a.tmps.getD t undef) w

theorem FlowL.mono {listed0 : Array Bool} {S S' : Nat → Prop} {a : Act} {w : World} (h : FlowL ops listed0 E C a0 S a w) (hs : ∀ i, S' i → S i) : FlowL ops listed0 E C a0 S' a w :=
  ⟨h.cls, h.size, h.defers, h.keep, fun i o t hi => h.vals i o t (hs i hi)⟩

theorem FlowL.put {listed0 : Array Bool} (hap : apartDst ops = true) (hfr : inFrame ops a0.tmps.size = true) (hC : ∀ w w', C w → Below w.heap.size w w' → C w') (hE : ∀ i v w w', E i v w → Below w.heap.size w w' → E i v w')
    {S : Nat → Prop} {a : Act} {w w' : World} (h : FlowL ops listed0 E C a0 S a w) {i : Nat} {o : Oper} (hi : ops[i]? = some o) (hl : listed0.getD i true = false) {v : Value} (hv : E i v w') (hb : Below w.heap.size w w') : FlowL ops listed0 E C a0 (fun j => S j ∨ j = i) (a.put o.dst v) w' := by
  refine ⟨hC _ _ h.cls hb, ?_, ?_, ?_, ?_⟩
  · rw [← h.size]
    unfold Act.put
    cases o.dst <;> simp
  · rw [← h.defers]
    unfold Act.put
    cases o.dst <;> rfl
  · intro t ht
    rw [← h.keep t ht]
    unfold Act.put
    cases hd : o.dst with
    | none => rfl
    | some d =>
      have hne : d ≠ t := fun e => by subst e; rw [isDstL_spec hi hl hd] at ht; cases ht
      exact getD_setv hne
  · intro j oj t hj hoj ht
    by_cases hji : j = i
    · subst hji
      rw [hi] at hoj
      cases hoj
      have hlt := inFrame_spec hfr hi ht
      unfold Act.put
      rw [ht]
      show E j ((a.tmps.setIfInBounds t v).getD t undef) w'
      rw [Array.getD_eq_getD_getElem?, Array.getElem?_setIfInBounds_self_of_lt (by rw [h.size]; exact hlt)]
      exact hv
    · have hS : S j := hj.resolve_right hji
      have h1 := hE _ _ _ _ (h.vals j oj t hS hoj ht) hb
      have hne : ∀ d, o.dst = some d → d ≠ t := fun d hd e => by subst e; exact apartDst_spec hap hi hoj (Ne.symm hji) hd ht
      unfold Act.put
      cases hd : o.dst with
      | none => exact h1
      | some d =>
        show E j ((a.tmps.setIfInBounds d v).getD t undef) w'
        rw [getD_setv (hne d hd)]
        exact h1

theorem flowC {z : Nat} {listed0 : Array Bool} (hear : earlierOps ops = true) (hap : apartDst ops = true) (hfr : inFrame ops a0.tmps.size = true) (hC : ∀ w w', C w → Below w.heap.size w w' → C w') (hE : ∀ i v w w', E i v w → Below w.heap.size w w' → E i v w')
    (hspec : ∀ i o, ops[i]? = some o → listed0.getD i true = false → ∀ b w, FlowL ops listed0 E C a0 (fun j => listed0.getD j true = false ∧ ∃ e ∈ o.after, Region.binds .any e = true ∧ e.on = j) b w → ∀ K : Act → World → Prop, (∀ v w', E i v w' → Below w.heap.size w w' → K (b.put o.dst v) w') → wpOpIn F n P ops Q i K b w)
    (hfin : ∀ b w, FlowL ops listed0 E C a0 (fun i => listed0.getD i true = false) b w → Q .normal b w) :
    ∀ (fuel : Nat) (listed : Array Bool) (a : Act) (w : World), listed.count false = fuel → listed.size = ops.size → (∀ i, listed0.getD i true = true → listed.getD i true = true) →
      FlowL ops listed0 E C a0 (fun i => listed0.getD i true = false ∧ listed.getD i true = true) a w → wpAnyC F n P .any ops z C Q fuel listed a w := by
  intro fuel
  induction fuel with
  | zero =>
    intro listed a w hc hs hsub hf
    have hno : ∀ i, listed.getD i true = true := fun i => by
      cases hg : listed.getD i true with
      | true => rfl
      | false =>
        have := count_listed hg
        omega
    refine ⟨List.eq_nil_iff_forall_not_mem.2 fun j hj => ?_, hfin a w (hf.mono fun i hi => ⟨hi, hno i⟩)⟩
    have h1 := (mem_ready.1 hj).1
    rw [hno j] at h1
    cases h1
  | succ fuel ih =>
    intro listed a w hc hs hsub hf
    have hsome : ∀ i, listed.getD i true = false → Region.ready .any ops listed ≠ [] := by
      intro i
      induction i using Nat.strongRecOn with
      | _ i ihi =>
        intro hi hnil
        have hlt : i < listed.size := by
          rcases Nat.lt_or_ge i listed.size with e | e
          · exact e
          · simp [Array.getElem?_eq_none e] at hi
        have ho : ops[i]? = some (ops[i]'(by rw [← hs]; exact hlt)) := Array.getElem?_eq_getElem _
        by_cases hall : ∀ e ∈ (ops[i]'(by rw [← hs]; exact hlt)).after, Region.binds .any e = true → listed.getD e.on false = true
        · have hm : i ∈ Region.ready .any ops listed := mem_ready.2 ⟨hi, _, ho, hall⟩
          rw [hnil] at hm
          cases hm
        · simp only [Classical.not_forall] at hall
          obtain ⟨e, he, hb, hg⟩ := hall
          have hel := earlierOps_spec hear ho he
          refine ihi e.on hel ?_ hnil
          have hlt2 : e.on < listed.size := by omega
          simp [hlt2] at hg ⊢
          exact hg
    refine ⟨fun hnil => ?_, fun i hi => ?_⟩
    · exfalso
      have hmem : false ∈ listed := Array.count_pos_iff.1 (by omega)
      obtain ⟨i, hlt, hg⟩ := Array.getElem_of_mem hmem
      exact hsome i (by simp [hlt, hg]) hnil
    · obtain ⟨hun, o, ho, hall⟩ := mem_ready.1 hi
      have hl0 : listed0.getD i true = false := by
        cases hg : listed0.getD i true with
        | false => rfl
        | true => rw [hsub i hg] at hun; cases hun
      refine hspec i o ho hl0 a w (hf.mono fun j hj => ?_) _ fun v w' hv hb => ⟨.inr (hC _ _ hf.cls hb), ?_⟩
      · obtain ⟨hj0, e, he, hbd, rfl⟩ := hj
        have h1 := hall e he hbd
        refine ⟨hj0, ?_⟩
        have hlt2 : e.on < listed.size := by
          rcases Nat.lt_or_ge e.on listed.size with g | g
          · exact g
          · simp [Array.getElem?_eq_none g] at h1
        simp [hlt2] at h1 ⊢
        exact h1
      · refine ih (listed.setIfInBounds i true) (a.put o.dst v) w' ?_ (by simpa using hs) (fun j hj => ?_) ((hf.put hap hfr hC hE ho hl0 hv hb).mono fun j hj => ?_)
        · have := count_listed hun
          omega
        · by_cases e : j = i
          · subst e
            rw [hl0] at hj
            cases hj
          · rw [getD_set_ne true (Ne.symm e)]
            exact hsub j hj
        · by_cases e : j = i
          · exact .inr e
          · left
            rw [getD_set_ne true (Ne.symm e)] at hj
            exact hj

theorem unlisted_mem {listed0 : Array Bool} (L : List Nat) (h : ((List.range listed0.size).all fun j => listed0.getD j true || L.contains j) = true) {i : Nat} (hl : listed0.getD i true = false) : i ∈ L := by
  have hlt : i < listed0.size := by
    rcases Nat.lt_or_ge i listed0.size with e | e
    · exact e
    · simp [Array.getElem?_eq_none e] at hl
  have h1 := List.all_eq_true.1 h i (List.mem_range.2 hlt)
  rw [hl] at h1
  simpa using h1

/-- A frame, written out where it may have turned. -/
theorem frame_eq : ∀ (D : List Nat) {x y : Array Value}, x.size = y.size → (∀ t, t ∉ D → x.getD t undef = y.getD t undef) → x = D.foldl (fun z t => z.setIfInBounds t (x.getD t undef)) y
  | [], x, y, hs, h => by
    show x = y
    refine Array.ext hs fun i h1 h2 => ?_
    have := h i (by simp)
    rw [Array.getD_eq_getD_getElem?, Array.getD_eq_getD_getElem?, Array.getElem?_eq_getElem h1, Array.getElem?_eq_getElem h2] at this
    exact this
  | d :: D, x, y, hs, h => by
    rw [List.foldl_cons]
    refine frame_eq D (by simpa using hs) fun t ht => ?_
    by_cases e : t = d
    · subst e
      rcases Nat.lt_or_ge t y.size with g | g
      · rw [Array.getD_eq_getD_getElem? (xs := y.setIfInBounds t _), Array.getElem?_setIfInBounds_self_of_lt g]
        rfl
      · simp [Array.getElem?_eq_none (by omega : x.size ≤ t)]
    · rw [getD_setv (Ne.symm e)]
      exact h t (by simp [e, ht])
/-- The slots of the operations that have not run. -/
def dstList (ops : Array Oper) (listed0 : Array Bool) : List Nat := (List.range ops.size).filterMap fun i => if listed0.getD i true then none else ops[i]?.bind (·.dst)
theorem not_dst {listed0 : Array Bool} {t : Nat} (h : t ∉ dstList ops listed0) : isDstL ops listed0 t = false := by
  cases hd : isDstL ops listed0 t with
  | false => rfl
  | true =>
    exfalso
    unfold isDstL at hd
    obtain ⟨i, hi, hp⟩ := List.any_eq_true.1 hd
    simp only [Bool.and_eq_true, Bool.not_eq_true', beq_iff_eq] at hp
    exact h (List.mem_filterMap.2 ⟨i, hi, by rw [hp.1, hp.2]; rfl⟩)
theorem noPanic_normal {a : Act} {w : World} : noPanic Q .normal a w = Q .normal a w := rfl
end
end Go.Proofs.Wd
