/-
  A part of the executor Sx over the model's code (any program): its words, or its proof; no seat's statement stands here.
-/
import Derived.Test.YtganobhodimjnaaSxH
namespace Go.Sx
variable {P : Program}

def rst (ρ : Rho) (m : Nat) : Rho := fun i => if i < m then ρ i else none

theorem rst_sub {ρ : Rho} {m : Nat} : Sub (rst ρ m) ρ := by
  intro i b h
  unfold rst at h
  split at h
  · exact h
  · cases h

theorem rst_mono {ρ ρ' : Rho} {m m' : Nat} (h : Sub ρ ρ') (hm : m ≤ m') : Sub (rst ρ m) (rst ρ' m') := by
  intro i b hb
  unfold rst at hb ⊢
  split at hb
  · rw [if_pos (by omega)]; exact h _ _ hb
  · cases hb

/-- all that is known of a drawn region's run in the text's order -/
structure DR (P : Program) (n : Nat) (ops : Array Oper) (St : Nat → S) (nd : Nat → Need) : Prop where
  top : Top (St 0)
  loc : ∀ i o, ops[i]? = some o → OpLoc P n ops o { St i with lg := [] } (nd i) (St (i + 1)) (St (i + 1)).lg
  back : ∀ i o, ops[i]? = some o → ∀ e ∈ o.after, Region.binds .any e = true → e.on < i
  /-- j may come only when i has, or they do not meet -/
  pair : ∀ i j oi oj, i < j → ops[i]? = some oi → ops[j]? = some oj →
    (∀ D : Nat → Prop, (∀ x o, D x → ops[x]? = some o → ∀ e ∈ o.after, Region.binds .any e = true → D e.on) → (∀ e ∈ oj.after, Region.binds .any e = true → D e.on) → D i) ∨
    PairOK ops.toList oi oj ⟨nd i, (St (i + 1)).lg, (St i).nx, (St (i + 1)).nx⟩ ⟨nd j, (St (j + 1)).lg, (St j).nx, (St (j + 1)).nx⟩

section
variable {n : Nat} {ops : Array Oper} {St : Nat → S} {nd : Nat → Need} (H : DR P n ops St nd)
include H

theorem DR.abs {i : Nat} (hi : i < ops.size) : Abs { St i with lg := [] } (St (i + 1)) (St (i + 1)).lg := (H.loc i ops[i] (Array.getElem?_eq_getElem hi)).abs

theorem DR.le : ∀ {i j : Nat}, i ≤ j → j ≤ ops.size → (St i).nx ≤ (St j).nx
  | i, 0, h, _ => by have : i = 0 := by omega
                     subst this; exact Nat.le_refl _
  | i, j + 1, h, hj => by
    by_cases e : i = j + 1
    · subst e; exact Nat.le_refl _
    · exact Nat.le_trans (DR.le (by omega) (by omega)) (H.abs (show j < ops.size by omega)).le

theorem DR.tops : ∀ {i : Nat}, i ≤ ops.size → Top (St i)
  | 0, _ => H.top
  | i + 1, h => (H.abs (show i < ops.size by omega)).top

/-- op j writes t -/
def Writes (ops : Array Oper) (j : Nat) (t : Nat) : Prop := ∃ o, ops[j]? = some o ∧ o.dst = some t
/-- op j turns or makes the block -/
def Turns (St : Nat → S) (j : Nat) (nm : Nat) : Prop := nm ∈ (St (j + 1)).lg ∨ ((St j).nx ≤ nm ∧ nm < (St (j + 1)).nx)

theorem DR.slot_same {t m : Nat} : ∀ {i : Nat}, m ≤ i → i ≤ ops.size → (∀ j, m ≤ j → j < i → ¬ Writes ops j t) → (St i).sl.get t = (St m).sl.get t
  | 0, h, _, _ => by have : m = 0 := by omega
                     subst this; rfl
  | i + 1, h, hi, hw => by
    by_cases e : m = i + 1
    · subst e; rfl
    · rw [← DR.slot_same (m := m) (i := i) (by omega) (by omega) fun j h1 h2 => hw j h1 (by omega)]
      have hlt : i < ops.size := by omega
      refine (H.loc i ops[i] (Array.getElem?_eq_getElem hlt)).other t fun hd => ?_
      exact hw i (by omega) (by omega) ⟨_, Array.getElem?_eq_getElem hlt, hd⟩

theorem DR.hp_same {nm m : Nat} : ∀ {i : Nat}, m ≤ i → i ≤ ops.size → nm < (St m).nx → (∀ j, m ≤ j → j < i → ¬ Turns St j nm) → (St i).hp.get nm = (St m).hp.get nm
  | 0, h, _, _, _ => by have : m = 0 := by omega
                        subst this; rfl
  | i + 1, h, hi, hn, hw => by
    by_cases e : m = i + 1
    · subst e; rfl
    · rw [← DR.hp_same (m := m) (i := i) (by omega) (by omega) hn fun j h1 h2 => hw j h1 (by omega)]
      have hlt : i < ops.size := by omega
      have := H.le (show m ≤ i by omega) (by omega)
      exact (H.abs hlt).keep nm (by show nm < (St i).nx; omega) fun hm => hw i (by omega) (by omega) (.inl hm)

structure Inv (ops : Array Oper) (n : Nat) (St : Nat → S) (ρ0 : Rho) (w0 : World) (D : Nat → Bool) (ρ : Rho) (Hh : Hp) (a : Act) (w : World) : Prop where
  closed : ∀ j o, D j = true → ops[j]? = some o → ∀ e ∈ o.after, Region.binds .any e = true → D e.on = true
  inside : ∀ j, D j = true → j < ops.size
  sz : a.tmps.size = n
  df : a.defers = []
  slots : ∀ t, ∃ m, m ≤ ops.size ∧ RVR (rst ρ (St m).nx) (slot n (St m).sl t) (a.tmps.getD t undef) ∧ (∀ j, D j = true → Writes ops j t → j < m) ∧ (m = 0 ∨ ∃ m', m = m' + 1 ∧ D m' = true ∧ Writes ops m' t)
  heap : ∀ nm, ∃ m, m ≤ ops.size ∧ Hh nm = (St m).hp.get nm ∧ (∀ j, D j = true → Turns St j nm → j < m) ∧ (m = 0 ∨ ∃ m', m = m' + 1 ∧ D m' = true ∧ Turns St m' nm) ∧
    ∀ x, Hh nm = some x → ∃ b c o, ρ nm = some (b, c) ∧ w.heap[b]? = some o ∧ BlkR (rst ρ (St m).nx) c x o
  inj : ∀ nm nm' x y b c c', Hh nm = some x → Hh nm' = some y → x.wr = true → ρ nm = some (b, c) → ρ nm' = some (b, c') → nm = nm'
  dom : ∀ nm b, ρ nm = some b → nm < (St 0).nx ∨ ∃ j, D j = true ∧ (St j).nx ≤ nm ∧ nm < (St (j + 1)).nx
  rho0 : ∀ nm, nm < (St 0).nx → ρ nm = ρ0 nm
  size : w0.heap.size ≤ w.heap.size
  frame : ∀ b, b < w0.heap.size → (∀ j nm c, D j = true → nm ∈ (St (j + 1)).lg → nm < (St 0).nx → ρ0 nm ≠ some (b, c)) → w.heap[b]? = w0.heap[b]?
  new : ∀ nm b c, (St 0).nx ≤ nm → ρ nm = some (b, c) → w0.heap.size ≤ b ∨ ∃ j nm0 c0, D j = true ∧ nm0 ∈ (St (j + 1)).lg ∧ nm0 < (St 0).nx ∧ ρ0 nm0 = some (b, c0)
  own : ∀ j nm, D j = true → nm ∈ (St (j + 1)).lg → nm < (St 0).nx → ∃ x, (St 0).hp.get nm = some x ∧ x.wr = true
  os : w.os = w0.os
  tape : w.tape = w0.tape
  out : w.output = w0.output

/-- an operation that is not done and whose forerunners are -/
structure Next (ops : Array Oper) (D : Nat → Bool) (i : Nat) (o : Oper) : Prop where
  at_ : ops[i]? = some o
  not : D i = false
  ready : ∀ e ∈ o.after, Region.binds .any e = true → D e.on = true

theorem DR.later {ρ0 ρ : Rho} {w0 w : World} {D : Nat → Bool} {Hh : Hp} {a : Act} (I : Inv ops n St ρ0 w0 D ρ Hh a w) {i : Nat} {o : Oper} (N : Next ops D i o) {j : Nat} {oj : Oper} (hj : D j = true) (ho : ops[j]? = some oj) (hlt : i < j) :
    PairOK ops.toList o oj ⟨nd i, (St (i + 1)).lg, (St i).nx, (St (i + 1)).nx⟩ ⟨nd j, (St (j + 1)).lg, (St j).nx, (St (j + 1)).nx⟩ := by
  rcases H.pair i j o oj hlt N.at_ ho with h | h
  · have := h (fun x => D x = true) (fun x o' hx hox e he hb => I.closed x o' hx hox e he hb) (fun e he hb => I.closed j oj hj ho e he hb)
    rw [N.not] at this; cases this
  · exact h

theorem DR.earlier {ρ0 ρ : Rho} {w0 w : World} {D : Nat → Bool} {Hh : Hp} {a : Act} (I : Inv ops n St ρ0 w0 D ρ Hh a w) {i : Nat} {o : Oper} (N : Next ops D i o) {j : Nat} {oj : Oper} (hj : D j = false) (ho : ops[j]? = some oj) (hlt : j < i) :
    PairOK ops.toList oj o ⟨nd j, (St (j + 1)).lg, (St j).nx, (St (j + 1)).nx⟩ ⟨nd i, (St (i + 1)).lg, (St i).nx, (St (i + 1)).nx⟩ := by
  rcases H.pair j i oj o hlt ho N.at_ with h | h
  · have := h (fun x => D x = true) (fun x o' hx hox e he hb => I.closed x o' hx hox e he hb) N.ready
    rw [hj] at this; cases this
  · exact h

theorem DR.slot_at {ρ0 ρ : Rho} {w0 w : World} {D : Nat → Bool} {Hh : Hp} {a : Act} (I : Inv ops n St ρ0 w0 D ρ Hh a w) {i : Nat} {o : Oper} (N : Next ops D i o) {t : Nat} (ht : t ∈ looks ops.toList o) :
    RVR (rst ρ (St i).nx) (slot n (St i).sl t) (a.tmps.getD t undef) := by
  have hi : i < ops.size := lt_of_get N.at_
  obtain ⟨m, m1, m2, m3, m4⟩ := I.slots t
  have hmi : m ≤ i := by
    rcases m4 with rfl | ⟨m', rfl, d1, oj, d2, d3⟩
    · omega
    · rcases Nat.lt_trichotomy m' i with h | h | h
      · omega
      · subst h; rw [N.not] at d1; cases d1
      · exact absurd ht ((H.later I N d1 d2 h).a2 t d3)
  have hsame := H.slot_same (t := t) hmi (by omega) fun j h1 h2 ⟨oj, d2, d3⟩ => by
    cases hj : D j with
    | true => have := m3 j hj ⟨oj, d2, d3⟩; omega
    | false => exact (H.earlier I N hj d2 h2).a1 t d3 ht
  have e : slot n (St i).sl t = slot n (St m).sl t := by unfold slot; rw [hsame]
  rw [e]
  exact m2.mono (rst_mono (Sub.refl _) (H.le hmi (by omega)))

theorem DR.heap_at {ρ0 ρ : Rho} {w0 w : World} {D : Nat → Bool} {Hh : Hp} {a : Act} (I : Inv ops n St ρ0 w0 D ρ Hh a w) {i : Nat} {o : Oper} (N : Next ops D i o) {nm : Nat} (hlt : nm < (St i).nx)
    (hneed : match nd i with | some l => nm ∈ l | none => True) :
    Hh nm = (St i).hp.get nm ∧ ∀ x, Hh nm = some x → ∃ b c o, ρ nm = some (b, c) ∧ w.heap[b]? = some o ∧ BlkR (rst ρ (St i).nx) c x o := by
  have hi : i < ops.size := lt_of_get N.at_
  obtain ⟨m, m1, m2, m3, m4, m5⟩ := I.heap nm
  have lat : ∀ j, D j = true → i < j → ¬ Turns St j nm := by
    intro j hj hij ht
    have hjs := I.inside j hj
    have p := H.later I N hj (Array.getElem?_eq_getElem hjs) hij
    have hle := H.le (show i ≤ j by omega) (by omega)
    rcases ht with ht | ⟨ht, _⟩
    · have := p.n2
      cases hn : nd i with
      | none => rw [hn] at this; have := this nm ht; simp only at this; omega
      | some l => rw [hn] at this hneed; exact this nm hneed ht
    · omega
  have ear : ∀ j, j < i → Turns St j nm → D j = true := by
    intro j hji ht
    cases hj : D j with
    | true => rfl
    | false =>
      exfalso
      have hjs : j < ops.size := by omega
      have p := H.earlier I N hj (Array.getElem?_eq_getElem hjs) hji
      have := p.n1
      cases hn : nd i with
      | none =>
        rw [hn] at this
        simp only at this
        rcases ht with ht | ht
        · rw [this.1] at ht; cases ht
        · omega
      | some l =>
        rw [hn] at this hneed
        have := this nm hneed
        rcases ht with ht | ht
        · exact this.1 ht
        · exact this.2 ht
  have hmi : m ≤ i := by
    rcases m4 with rfl | ⟨m', rfl, d1, d2⟩
    · omega
    · rcases Nat.lt_trichotomy m' i with h | h | h
      · omega
      · subst h; rw [N.not] at d1; cases d1
      · exact absurd d2 (lat m' d1 h)
  have hnow : ∀ j, m ≤ j → j < i → ¬ Turns St j nm := fun j h1 h2 ht => by
    have := m3 j (ear j h2 ht) ht; omega
  have hm0 : (St i).hp.get nm = (St m).hp.get nm := by
    by_cases hnm : nm < (St m).nx
    · exact H.hp_same hmi (by omega) hnm hnow
    · -- the name is made between: then it was turned there
      exfalso
      have key : ∀ k, m + k ≤ i → nm < (St (m + k)).nx → ∃ j, m ≤ j ∧ j < i ∧ Turns St j nm := by
        intro k
        induction k with
        | zero => intro _ h; exact absurd h hnm
        | succ k ih =>
          intro h1 h2
          by_cases h3 : nm < (St (m + k)).nx
          · exact ih (by omega) h3
          · exact ⟨m + k, by omega, by omega, .inr ⟨by omega, h2⟩⟩
      obtain ⟨j, j1, j2, j3⟩ := key (i - m) (by omega) (by rw [show m + (i - m) = i by omega]; exact hlt)
      exact hnow j j1 j2 j3
  refine ⟨by rw [m2, hm0], fun x hx => ?_⟩
  obtain ⟨b, c, o, g1, g2, g3⟩ := m5 x hx
  exact ⟨b, c, o, g1, g2, g3.mono (rst_mono (Sub.refl _) (H.le hmi (by omega)))⟩

end
end Go.Sx
