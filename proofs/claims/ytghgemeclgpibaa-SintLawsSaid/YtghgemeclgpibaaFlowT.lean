/- An open region whose first operations may run in any order (their results known by facts that stay), the rest behind them: the facts of the first ones hold where the rest begins. New boxes are told apart. -/
import Derived.Test.YtghgemeclgpibaaFlow
namespace Go.Proofs.Wd
open Go.RowKit Lb

section
variable {F : Fence} {n : Nat} {P : Program} {ops : Array Oper} {Q : Exit → Act → World → Prop}

/-- Operation j waits for operation i, itself or through others. -/
def covers (ops : Array Oper) : Nat → Nat → Nat → Bool
  | 0, _, _ => false
  | fuel + 1, i, j => match ops[j]? with
    | none => false
    | some o => o.after.any fun e => Region.binds .any e && (e.on == i || covers ops fuel i e.on)
/-- The operations from k on wait for all before k that have not run. -/
def tailOps (ops : Array Oper) (listed0 : Array Bool) (k : Nat) : Bool := (List.range ops.size).all fun j => decide (j < k) || (List.range k).all fun i => listed0.getD i true || covers ops ops.size i j
/-- Each operation waits for earlier ones alone. -/
def earlierB (ops : Array Oper) : Bool := (List.range ops.size).all fun i => match ops[i]? with
  | none => true
  | some o => o.after.all fun e => !Region.binds .any e || decide (e.on < i)
theorem earlierB_spec (h : earlierB ops = true) {i : Nat} {o : Oper} (hi : ops[i]? = some o) {e} (he : e ∈ o.after) (hb : Region.binds .any e = true) : e.on < i := by
  have hl := (Array.getElem?_eq_some_iff.1 hi).1
  have h1 := List.all_eq_true.1 h i (List.mem_range.2 hl)
  rw [hi] at h1
  have h2 := Array.all_eq_true_iff_forall_mem.1 h1 e he
  rw [hb] at h2
  simpa using h2
/-- What is listed has all listed that it waits for; checked. -/
def closedB (ops : Array Oper) (listed : Array Bool) : Bool := (List.range ops.size).all fun i => !listed.getD i false || match ops[i]? with
  | none => true
  | some o => o.after.all fun e => !Region.binds .any e || listed.getD e.on false
/-- Only operations before k are listed. -/
def onlyTo (listed : Array Bool) (k : Nat) : Bool := (List.range listed.size).all fun i => decide (i < k) || !listed.getD i false

/-- What is listed has all listed that it waits for. -/
def Closed (ops : Array Oper) (listed : Array Bool) : Prop := ∀ i o, listed.getD i false = true → ops[i]? = some o → ∀ e ∈ o.after, Region.binds .any e = true → listed.getD e.on false = true

theorem covers_listed {listed : Array Bool} (hc : Closed ops listed) : ∀ (fuel i j : Nat) (o : Oper), ops[j]? = some o → (∀ e ∈ o.after, Region.binds .any e = true → listed.getD e.on false = true) → covers ops fuel i j = true → listed.getD i false = true
  | 0, _, _, _, _, _, h => by cases h
  | fuel + 1, i, j, o, hj, hd, h => by
    unfold covers at h
    rw [hj] at h
    obtain ⟨x, hx, he⟩ := Array.any_eq_true.1 h
    simp only [Bool.and_eq_true, Bool.or_eq_true, beq_iff_eq] at he
    have hl := hd _ (Array.getElem_mem hx) he.1
    rcases he.2 with e | e
    · rw [← e]; exact hl
    · have hlt : ∃ o', ops[(o.after[x]).on]? = some o' := by
        cases ho : ops[(o.after[x]).on]? with
        | some o' => exact ⟨o', rfl⟩
        | none =>
          exfalso
          cases fuel with
          | zero => cases e
          | succ f => unfold covers at e; rw [ho] at e; cases e
      obtain ⟨o', ho'⟩ := hlt
      exact covers_listed hc fuel i _ o' ho' (fun e' he' hb' => hc _ _ hl ho' e' he' hb') e

theorem closedB_spec {listed : Array Bool} (h : closedB ops listed = true) : Closed ops listed := by
  intro i o hl hi e he hb
  have h1 := List.all_eq_true.1 h i (List.mem_range.2 (Array.getElem?_eq_some_iff.1 hi).1)
  rw [hl, hi, Bool.not_true, Bool.false_or] at h1
  have h2 := Array.all_eq_true_iff_forall_mem.1 h1 e he
  rw [hb] at h2
  simpa using h2
theorem onlyTo_spec {listed : Array Bool} {k : Nat} (h : onlyTo listed k = true) {i : Nat} (hk : k ≤ i) : listed.getD i false = false := by
  rcases Nat.lt_or_ge i listed.size with g | g
  · have h1 := List.all_eq_true.1 h i (List.mem_range.2 g)
    simp only [Bool.or_eq_true, decide_eq_true_eq, Bool.not_eq_true'] at h1
    rcases h1 with h1 | h1
    · omega
    · exact h1
  · simp [Array.getElem?_eq_none g]

def blk : Value → Option Nat
  | .pointer (some ⟨b, _, _⟩) => some b
  | _ => none

/-- What is known of a frame in which the operations of S have run; A: those that make a box. -/
structure FlowB (ops : Array Oper) (listed0 : Array Bool) (A : Nat → Bool) (E : Nat → Value → World → Prop) (C : World → Prop) (a0 : Act) (S : Nat → Prop) (a : Act) (w : World) : Prop where
  at_ : FlowL ops listed0 E C a0 S a w
  old : ∀ i o t b, S i → A i = true → ops[i]? = some o → o.dst = some t → blk (a.tmps.getD t undef) = some b → b < w.heap.size
  apart : ∀ i j oi oj ti tj bi bj, S i → S j → i ≠ j → A i = true → A j = true → ops[i]? = some oi → ops[j]? = some oj → oi.dst = some ti → oj.dst = some tj → blk (a.tmps.getD ti undef) = some bi → blk (a.tmps.getD tj undef) = some bj → bi ≠ bj

variable {listed0 : Array Bool} {A : Nat → Bool} {E : Nat → Value → World → Prop} {C : World → Prop} {a0 : Act}

theorem FlowB.mono {S S' : Nat → Prop} {a : Act} {w : World} (h : FlowB ops listed0 A E C a0 S a w) (hs : ∀ i, S' i → S i) : FlowB ops listed0 A E C a0 S' a w :=
  ⟨h.at_.mono hs, fun i o t b hi => h.old i o t b (hs i hi), fun i j oi oj ti tj bi bj hi hj => h.apart i j oi oj ti tj bi bj (hs i hi) (hs j hj)⟩

theorem put_same (hfr : inFrame ops a0.tmps.size = true) {a : Act} (hsz : a.tmps.size = a0.tmps.size) {i : Nat} {o : Oper} (hi : ops[i]? = some o) {t : Tmp} (ht : o.dst = some t) (v : Value) : (a.put o.dst v).tmps.getD t undef = v := by
  have hlt := inFrame_spec hfr hi ht
  unfold Act.put
  rw [ht]
  show (a.tmps.setIfInBounds t v).getD t undef = v
  rw [Array.getD_eq_getD_getElem?, Array.getElem?_setIfInBounds_self_of_lt (by rw [hsz]; exact hlt)]
  rfl
theorem put_other (hap : apartDst ops = true) {a : Act} {i j : Nat} {o oj : Oper} (hi : ops[i]? = some o) (hj : ops[j]? = some oj) (hne : i ≠ j) {t : Tmp} (ht : oj.dst = some t) (v : Value) : (a.put o.dst v).tmps.getD t undef = a.tmps.getD t undef := by
  unfold Act.put
  cases hd : o.dst with
  | none => rfl
  | some d => exact getD_setv (fun e => by subst e; exact apartDst_spec hap hi hj hne hd ht)

theorem FlowB.put (hap : apartDst ops = true) (hfr : inFrame ops a0.tmps.size = true) (hC : ∀ w w', C w → Below w.heap.size w w' → C w') (hE : ∀ i v w w', E i v w → Below w.heap.size w w' → E i v w')
    {S : Nat → Prop} {a : Act} {w w' : World} (h : FlowB ops listed0 A E C a0 S a w) {i : Nat} {o : Oper} (hi : ops[i]? = some o) (hl : listed0.getD i true = false) {v : Value} (hv : E i v w') (hb : Below w.heap.size w w') (hA : A i = true → ∀ b, blk v = some b → w.heap.size ≤ b ∧ b < w'.heap.size) :
    FlowB ops listed0 A E C a0 (fun j => S j ∨ j = i) (a.put o.dst v) w' := by
  refine ⟨h.at_.put hap hfr hC hE hi hl hv hb, ?_, ?_⟩
  · intro j oj t b hj hAj hoj ht hbk
    by_cases hji : j = i
    · subst hji
      rw [hi] at hoj
      cases hoj
      rw [put_same hfr h.at_.size hi ht] at hbk
      exact (hA hAj b hbk).2
    · rw [put_other hap hi hoj (Ne.symm hji) ht] at hbk
      exact Nat.lt_of_lt_of_le (h.old j oj t b (hj.resolve_right hji) hAj hoj ht hbk) hb.size
  · intro x y ox oy tx ty bx bya hx hy hxy hAx hAy hox hoy htx hty hbx hby
    by_cases hxi : x = i
    · subst hxi
      rw [hi] at hox
      cases hox
      rw [put_same hfr h.at_.size hi htx] at hbx
      rw [put_other hap hi hoy hxy hty] at hby
      have h1 := (hA hAx bx hbx).1
      have h2 := h.old y oy ty bya (hy.resolve_right (Ne.symm hxy)) hAy hoy hty hby
      omega
    · rw [put_other hap hi hox (Ne.symm hxi) htx] at hbx
      by_cases hyi : y = i
      · subst hyi
        rw [hi] at hoy
        cases hoy
        rw [put_same hfr h.at_.size hi hty] at hby
        have h1 := (hA hAy bya hby).1
        have h2 := h.old x ox tx bx (hx.resolve_right hxi) hAx hox htx hbx
        omega
      · rw [put_other hap hi hoy (Ne.symm hyi) hty] at hby
        exact h.apart x y ox oy tx ty bx bya (hx.resolve_right hxi) (hy.resolve_right hyi) hxy hAx hAy hox hoy htx hty hbx hby

/-- The first k are listed. -/
def listedTo (m k : Nat) : Array Bool := ((List.range m).map fun i => decide (i < k)).toArray

theorem flowT {k z : Nat} (hear : earlierB ops = true) (htl : tailOps ops listed0 k = true) (hap : apartDst ops = true) (hfr : inFrame ops a0.tmps.size = true) (hkl : decide (k ≤ ops.size) = true) (hC : ∀ w w', C w → Below w.heap.size w w' → C w') (hE : ∀ i v w w', E i v w → Below w.heap.size w w' → E i v w')
    (hspec : ∀ i, i < k → listed0.getD i true = false → ∀ o, ops[i]? = some o → ∀ a w, FlowB ops listed0 A E C a0 (fun j => listed0.getD j true = false ∧ ∃ e ∈ o.after, Region.binds .any e = true ∧ e.on = j) a w → ∀ K : Act → World → Prop, (∀ v w', E i v w' → Below w.heap.size w w' → (A i = true → ∀ b, blk v = some b → w.heap.size ≤ b ∧ b < w'.heap.size) → K (a.put o.dst v) w') → wpOpIn F n P ops Q i K a w)
    (hfin : ∀ a w, FlowB ops listed0 A E C a0 (fun i => i < k ∧ listed0.getD i true = false) a w → wpAnyC F n P .any ops z (fun _ => True) Q (ops.size - k) (listedTo ops.size k) a w) :
    ∀ (fuel : Nat) (listed : Array Bool) (a : Act) (w : World), listed.count false = fuel → listed.size = ops.size → (∀ i, k ≤ i → listed.getD i false = false) → Closed ops listed → (∀ i, listed0.getD i true = true → i < ops.size → listed.getD i false = true) →
      FlowB ops listed0 A E C a0 (fun i => listed0.getD i true = false ∧ listed.getD i false = true) a w → wpAnyC F n P .any ops z (fun _ => True) Q fuel listed a w := by
  have hkl' := of_decide_eq_true hkl
  intro fuel
  induction fuel with
  | zero =>
    intro listed a w hc hs hlate hcl hsub hf
    have hno : ∀ i, listed.getD i true = true := fun i => by
      cases hg : listed.getD i true with
      | true => rfl
      | false =>
        have := count_listed hg
        omega
    have hk2 : k = ops.size := by
      rcases Nat.lt_or_ge k ops.size with hlt | hge
      · exfalso
        have h1 := hno k
        have h2 := hlate k (Nat.le_refl _)
        have hlt2 : k < listed.size := by omega
        simp [hlt2] at h1 h2
        rw [h1] at h2
        cases h2
      · omega
    have hl : listed = listedTo ops.size k := by
      refine Array.ext (by simp [listedTo, hs]) fun i h1 h2 => ?_
      have := hno i
      simp [h1] at this
      simp [listedTo, this]
      omega
    have := hfin a w (hf.mono fun i hi => ⟨hi.2, by
      have h1 := hno i
      have hlt : i < listed.size := by omega
      simp [hlt] at h1 ⊢
      exact h1⟩)
    rw [hl]
    rwa [show ops.size - k = 0 from by omega] at this
  | succ fuel ih =>
    intro listed a w hc hs hlate hcl hsub hf
    by_cases hall : ∀ i, i < k → listed.getD i false = true
    · have hl : listed = listedTo ops.size k := by
        refine Array.ext (by simp [listedTo, hs]) fun i h1 h2 => ?_
        by_cases hik : i < k
        · have := hall i hik
          simp [h1] at this
          simp [listedTo, this, hik]
        · have := hlate i (by omega)
          simp [h1] at this
          simp [listedTo, this, hik]
      have hcnt : listed.count false = ops.size - k := by
        rw [hl]
        unfold listedTo
        rw [List.count_toArray, List.count_eq_countP, List.countP_map]
        have : ∀ m, k ≤ m → List.countP ((fun x => x == false) ∘ fun i => decide (i < k)) (List.range m) = m - k := by
          intro m
          induction m with
          | zero => intro h; simp
          | succ m ihm =>
            intro h
            rw [List.range_succ, List.countP_append]
            by_cases e : k = m + 1
            · subst e
              have : List.countP ((fun x => x == false) ∘ fun i => decide (i < m + 1)) (List.range m) = 0 := by
                rw [List.countP_eq_zero]
                intro x hx
                have := List.mem_range.1 hx
                simp; omega
              rw [this]; simp
            · rw [ihm (by omega)]
              have e2 : decide (m < k) = false := decide_eq_false (by omega)
              simp [e2]
              omega
        exact this ops.size hkl'
      have hf' := hfin a w (hf.mono fun i hi => ⟨hi.2, hall i hi.1⟩)
      rw [← hl, ← hcnt, hc] at hf'
      exact hf'
    · simp only [Classical.not_forall] at hall
      obtain ⟨u, huk, hu⟩ := hall
      have hlt : u < listed.size := by omega
      have hu' : listed.getD u true = false := by
        simp [hlt] at hu ⊢
        exact hu
      have hsome : ∀ i, listed.getD i true = false → Region.ready .any ops listed ≠ [] := by
        intro i
        induction i using Nat.strongRecOn with
        | _ i ihi =>
          intro hi hnil
          have hlt : i < listed.size := by
            rcases Nat.lt_or_ge i listed.size with e | e
            · exact e
            · simp [Array.getElem?_eq_none e] at hi
          have ho : ops[i]? = some (ops[i]'(by rw [← hs]; exact hlt)) := Array.getElem?_eq_getElem _
          by_cases hall : ∀ e ∈ (ops[i]'(by rw [← hs]; exact hlt)).after, Region.binds .any e = true → listed.getD e.on false = true
          · have hm : i ∈ Region.ready .any ops listed := mem_ready.2 ⟨hi, _, ho, hall⟩
            rw [hnil] at hm
            cases hm
          · simp only [Classical.not_forall] at hall
            obtain ⟨e, he, hb, hg⟩ := hall
            have hel := earlierB_spec hear ho he hb
            refine ihi e.on hel ?_ hnil
            have hlt2 : e.on < listed.size := by omega
            simp [hlt2] at hg ⊢
            exact hg
      refine ⟨fun hnil => (hsome u hu' hnil).elim, fun i hi => ?_⟩
      obtain ⟨hun, o, ho, hall⟩ := mem_ready.1 hi
      have hil := (Array.getElem?_eq_some_iff.1 ho).1
      have hl0 : listed0.getD i true = false := by
        cases hg : listed0.getD i true with
        | false => rfl
        | true =>
          have := hsub i hg hil
          have hlt3 : i < listed.size := by omega
          simp [hlt3] at this hun
          rw [this] at hun
          cases hun
      have hik : i < k := by
        rcases Nat.lt_or_ge i k with e | e
        · exact e
        · exfalso
          have h1 := List.all_eq_true.1 htl i (List.mem_range.2 hil)
          simp only [Bool.or_eq_true, decide_eq_true_eq] at h1
          rcases h1 with h1 | h1
          · omega
          · have h2 := List.all_eq_true.1 h1 u (List.mem_range.2 huk)
            simp only [Bool.or_eq_true] at h2
            rcases h2 with h2 | h2
            · exact hu (hsub u h2 (by omega))
            · exact hu (covers_listed hcl _ u i o ho hall h2)
      refine hspec i hik hl0 o ho a w (hf.mono fun j hj => ?_) _ fun v w' hv hb hA => ⟨.inr trivial, ?_⟩
      · obtain ⟨hj0, e, he, hb, rfl⟩ := hj
        exact ⟨hj0, hall e he hb⟩
      · refine ih (listed.setIfInBounds i true) (a.put o.dst v) w' ?_ (by simpa using hs) (fun j hj => ?_) (fun j oj hj hoj e he hbe => ?_) (fun j hj hjl => ?_) ((hf.put hap hfr hC hE ho hl0 hv hb hA).mono fun j hj => ?_)
        · have := count_listed hun
          omega
        · rw [getD_set_ne false (by omega)]
          exact hlate j hj
        · by_cases e2 : j = i
          · subst e2
            rw [ho] at hoj
            cases hoj
            by_cases e3 : e.on = j
            · rw [e3]; exact hj
            · rw [getD_set_ne false (Ne.symm e3)]
              exact hall e he hbe
          · rw [getD_set_ne false (Ne.symm e2)] at hj
            have := hcl j oj hj hoj e he hbe
            by_cases e3 : e.on = i
            · rw [e3]
              have hlt : i < listed.size := by omega
              simp [hlt]
            · rw [getD_set_ne false (Ne.symm e3)]
              exact this
        · by_cases e3 : j = i
          · subst e3
            rw [hl0] at hj
            cases hj
          · rw [getD_set_ne false (Ne.symm e3)]
            exact hsub j hj hjl
        · by_cases e : j = i
          · exact .inr e
          · left
            rw [getD_set_ne false (Ne.symm e)] at hj
            exact hj

/-- From a state in which some operations have been taken. -/
theorem flowT_at {k z fuel : Nat} {w : World} (A : Nat → Bool) (E : Nat → Value → World → Prop) (C : World → Prop) (hear : earlierB ops = true) (htl : tailOps ops listed0 k = true) (hap : apartDst ops = true) (hfr : inFrame ops a0.tmps.size = true) (hkl : decide (k ≤ ops.size) = true)
    (hcnt : listed0.count false = fuel) (hsz : listed0.size = ops.size) (hcl : closedB ops listed0 = true) (hto : onlyTo listed0 k = true)
    (hC : ∀ w w', C w → Below w.heap.size w w' → C w') (hE : ∀ i v w w', E i v w → Below w.heap.size w w' → E i v w') (hw : C w)
    (hspec : ∀ i, i < k → listed0.getD i true = false → ∀ o, ops[i]? = some o → ∀ a w, FlowB ops listed0 A E C a0 (fun j => listed0.getD j true = false ∧ ∃ e ∈ o.after, Region.binds .any e = true ∧ e.on = j) a w → ∀ K : Act → World → Prop, (∀ v w', E i v w' → Below w.heap.size w w' → (A i = true → ∀ b, blk v = some b → w.heap.size ≤ b ∧ b < w'.heap.size) → K (a.put o.dst v) w') → wpOpIn F n P ops Q i K a w)
    (hfin : ∀ a w, FlowB ops listed0 A E C a0 (fun i => i < k ∧ listed0.getD i true = false) a w → wpAnyC F n P .any ops z (fun _ => True) Q (ops.size - k) (listedTo ops.size k) a w) :
    wpAnyC F n P .any ops z (fun _ => True) Q fuel listed0 a0 w := by
  have hcontra : ∀ i, listed0.getD i true = false → listed0.getD i false = true → False := fun i h1 h2 => by
    rcases Nat.lt_or_ge i listed0.size with g | g
    · simp [g] at h1 h2
      rw [h1] at h2
      cases h2
    · simp [Array.getElem?_eq_none g] at h2
  exact flowT hear htl hap hfr hkl hC hE hspec hfin fuel listed0 a0 w hcnt hsz (fun i hi => onlyTo_spec hto hi) (closedB_spec hcl) (fun i hi hl => by
      have g : i < listed0.size := by omega
      simp [g] at hi ⊢
      exact hi)
    ⟨⟨hw, rfl, rfl, fun _ _ => rfl, fun i o t hi => (hcontra i hi.1 hi.2).elim⟩, fun i o t b hi => (hcontra i hi.1 hi.2).elim, fun i j oi oj ti tj bi bj hi => (hcontra i hi.1 hi.2).elim⟩

end

theorem all_lt_succ {p q : Nat → Prop} {k : Nat} (h : ∀ i, i < k → q i → p i) (hk : q k → p k) : ∀ i, i < k + 1 → q i → p i := fun i hi hq => by
  rcases Nat.lt_succ_iff_lt_or_eq.1 hi with h1 | h1
  · exact h i h1 hq
  · subst h1; exact hk hq
/-- A slot that holds a bool. -/
theorem some_bool {o : Option Value} {b : Bool} (h : o.getD undef = .bool b) : o = some (.bool b) := by
  cases o with
  | none => cases h
  | some v => rw [Option.getD_some] at h; rw [h]
end Go.Proofs.Wd
