/-
  Parts of the executor Sx over the model's code (any program), or of this seat's walks: words and proofs that the row's text uses.
-/
import Derived.Test.YtfceckiklfkjkaaGreatSxP
import Derived.Below
namespace Go.Sx
variable {P : Program}

def rst (ρ : Rho) (m : Nat) : Rho := ⟨fun i => if i < m then ρ i else none, ρ.fz⟩
theorem rst_nm {ρ : Rho} {m i : Nat} : (rst ρ m) i = if i < m then ρ i else none := rfl

theorem rst_sub {ρ : Rho} {m : Nat} : Sub (rst ρ m) ρ := by
  refine ⟨?_, fun _ _ h => h⟩
  intro i b h
  rw [rst_nm] at h
  split at h
  · exact h
  · cases h

theorem rst_mono {ρ ρ' : Rho} {m m' : Nat} (h : Sub ρ ρ') (hm : m ≤ m') : Sub (rst ρ m) (rst ρ' m') := by
  refine ⟨?_, h.fz⟩
  intro i b hb
  rw [rst_nm] at hb ⊢
  split at hb
  · rw [if_pos (by omega)]; exact h _ _ hb
  · cases hb

/-- all that is known of a drawn region's run in the text's order -/
structure DR (P : Program) (n : Nat) (ops : Array Oper) (St : Nat → S) (nd : Nat → Need) : Prop where
  top : Top (St 0)
  loc : ∀ i o, ops[i]? = some o → OpLoc P n ops o { St i with lg := [] } (nd i) (St (i + 1)) (St (i + 1)).lg
  back : ∀ i o, ops[i]? = some o → ∀ e ∈ o.after, Region.binds .any e = true → e.on < i
  /-- j may come only when i has, or they do not meet -/
  pair : ∀ i j oi oj, i < j → ops[i]? = some oi → ops[j]? = some oj →
    (∀ D : Nat → Prop, (∀ x o, D x → ops[x]? = some o → ∀ e ∈ o.after, Region.binds .any e = true → D e.on) → (∀ e ∈ oj.after, Region.binds .any e = true → D e.on) → D i) ∨
    PairOK ops.toList oi oj ⟨nd i, (St (i + 1)).lg, (St i).nx, (St (i + 1)).nx⟩ ⟨nd j, (St (j + 1)).lg, (St j).nx, (St (j + 1)).nx⟩

section
variable {n : Nat} {ops : Array Oper} {St : Nat → S} {nd : Nat → Need} (H : DR P n ops St nd)
include H

theorem DR.abs {i : Nat} (hi : i < ops.size) : Abs { St i with lg := [] } (St (i + 1)) (St (i + 1)).lg := (H.loc i ops[i] (Array.getElem?_eq_getElem hi)).abs

theorem DR.le : ∀ {i j : Nat}, i ≤ j → j ≤ ops.size → (St i).nx ≤ (St j).nx
  | i, 0, h, _ => by have : i = 0 := by omega
                     subst this; exact Nat.le_refl _
  | i, j + 1, h, hj => by
    by_cases e : i = j + 1
    · subst e; exact Nat.le_refl _
    · exact Nat.le_trans (DR.le (by omega) (by omega)) (H.abs (show j < ops.size by omega)).le

theorem DR.tops : ∀ {i : Nat}, i ≤ ops.size → Top (St i)
  | 0, _ => H.top
  | i + 1, h => (H.abs (show i < ops.size by omega)).top

/-- op j writes t -/
def Writes (ops : Array Oper) (j t : Nat) : Prop := ∃ o, ops[j]? = some o ∧ o.dst = some t
/-- op j turns or makes the block -/
def Turns (St : Nat → S) (j nm : Nat) : Prop := nm ∈ (St (j + 1)).lg ∨ ((St j).nx ≤ nm ∧ nm < (St (j + 1)).nx)

theorem DR.slot_same {t m : Nat} : ∀ {i : Nat}, m ≤ i → i ≤ ops.size → (∀ j, m ≤ j → j < i → ¬ Writes ops j t) → (St i).sl.get t = (St m).sl.get t
  | 0, h, _, _ => by have : m = 0 := by omega
                     subst this; rfl
  | i + 1, h, hi, hw => by
    by_cases e : m = i + 1
    · subst e; rfl
    · rw [← DR.slot_same (m := m) (i := i) (by omega) (by omega) fun j h1 h2 => hw j h1 (by omega)]
      have hlt : i < ops.size := by omega
      refine (H.loc i ops[i] (Array.getElem?_eq_getElem hlt)).other t fun hd => ?_
      exact hw i (by omega) (by omega) ⟨_, Array.getElem?_eq_getElem hlt, hd⟩

theorem DR.hp_same {nm m : Nat} : ∀ {i : Nat}, m ≤ i → i ≤ ops.size → nm < (St m).nx → (∀ j, m ≤ j → j < i → ¬ Turns St j nm) → (St i).hp.get nm = (St m).hp.get nm
  | 0, h, _, _, _ => by have : m = 0 := by omega
                        subst this; rfl
  | i + 1, h, hi, hn, hw => by
    by_cases e : m = i + 1
    · subst e; rfl
    · rw [← DR.hp_same (m := m) (i := i) (by omega) (by omega) hn fun j h1 h2 => hw j h1 (by omega)]
      have hlt : i < ops.size := by omega
      have := H.le (show m ≤ i by omega) (by omega)
      exact (H.abs hlt).keep nm (by show nm < (St i).nx; omega) fun hm => hw i (by omega) (by omega) (.inl hm)

structure Inv (ds : List Deferred) (ops : Array Oper) (n : Nat) (St : Nat → S) (ρ0 : Rho) (w0 : World) (D : Nat → Bool) (ρ : Rho) (Hh : Hp) (a : Act) (w : World) : Prop where
  closed : ∀ j o, D j = true → ops[j]? = some o → ∀ e ∈ o.after, Region.binds .any e = true → D e.on = true
  inside : ∀ j, D j = true → j < ops.size
  sz : a.tmps.size = n
  df : a.defers = ds
  slots : ∀ t, ∃ m, m ≤ ops.size ∧ RVR (rst ρ (St m).nx) (slot n (St m).sl t) (a.tmps.getD t undef) ∧ (∀ j, D j = true → Writes ops j t → j < m) ∧ (m = 0 ∨ ∃ m', m = m' + 1 ∧ D m' = true ∧ Writes ops m' t)
  heap : ∀ nm, ∃ m, m ≤ ops.size ∧ Hh nm = (St m).hp.get nm ∧ (∀ j, D j = true → Turns St j nm → j < m) ∧ (m = 0 ∨ ∃ m', m = m' + 1 ∧ D m' = true ∧ Turns St m' nm) ∧
    ∀ x, Hh nm = some x → ∃ b c o, ρ nm = some (b, c) ∧ w.heap[b]? = some o ∧ BlkR (rst ρ (St m).nx) c x o
  inj : ∀ nm nm' x y b c c', Hh nm = some x → Hh nm' = some y → x.wr = true → ρ nm = some (b, c) → ρ nm' = some (b, c') → nm = nm'
  dom : ∀ nm b, ρ nm = some b → nm < (St 0).nx ∨ ∃ j, D j = true ∧ (St j).nx ≤ nm ∧ nm < (St (j + 1)).nx
  rho0 : ∀ nm, nm < (St 0).nx → ρ nm = ρ0 nm
  size : w0.heap.size ≤ w.heap.size
  frame : ∀ b, b < w0.heap.size → (∀ j nm c, D j = true → nm ∈ (St (j + 1)).lg → nm < (St 0).nx → ρ0 nm ≠ some (b, c)) → w.heap[b]? = w0.heap[b]?
  new : ∀ nm b c, (St 0).nx ≤ nm → ρ nm = some (b, c) → w0.heap.size ≤ b ∨ ∃ j nm0 c0, D j = true ∧ nm0 ∈ (St (j + 1)).lg ∧ nm0 < (St 0).nx ∧ ρ0 nm0 = some (b, c0)
  own : ∀ j nm, D j = true → nm ∈ (St (j + 1)).lg → nm < (St 0).nx → ∃ x, (St 0).hp.get nm = some x ∧ x.wr = true
  os : w.os = w0.os
  tape : w.tape = w0.tape
  out : w.output = w0.output
  fz : FzOK ρ Hh w
  fzk : ∀ b l, ρ0.fz b = some l → ρ.fz b = some l
  fzn : ∀ b l, ρ.fz b = some l → ρ0.fz b = some l ∨ w0.heap.size ≤ b ∨ ∃ j nm0 c0, D j = true ∧ nm0 ∈ (St (j + 1)).lg ∧ nm0 < (St 0).nx ∧ ρ0 nm0 = some (b, c0)

/-- an operation that is not done and whose forerunners are -/
structure Next (ops : Array Oper) (D : Nat → Bool) (i : Nat) (o : Oper) : Prop where
  at_ : ops[i]? = some o
  not : D i = false
  ready : ∀ e ∈ o.after, Region.binds .any e = true → D e.on = true

theorem DR.later {ds : List Deferred} {ρ0 ρ : Rho} {w0 w : World} {D : Nat → Bool} {Hh : Hp} {a : Act} (I : Inv ds ops n St ρ0 w0 D ρ Hh a w) {i : Nat} {o : Oper} (N : Next ops D i o) {j : Nat} {oj : Oper} (hj : D j = true) (ho : ops[j]? = some oj) (hlt : i < j) :
    PairOK ops.toList o oj ⟨nd i, (St (i + 1)).lg, (St i).nx, (St (i + 1)).nx⟩ ⟨nd j, (St (j + 1)).lg, (St j).nx, (St (j + 1)).nx⟩ := by
  rcases H.pair i j o oj hlt N.at_ ho with h | h
  · have := h (fun x => D x = true) (fun x o' hx hox e he hb => I.closed x o' hx hox e he hb) (fun e he hb => I.closed j oj hj ho e he hb)
    rw [N.not] at this; cases this
  · exact h

theorem DR.earlier {ds : List Deferred} {ρ0 ρ : Rho} {w0 w : World} {D : Nat → Bool} {Hh : Hp} {a : Act} (I : Inv ds ops n St ρ0 w0 D ρ Hh a w) {i : Nat} {o : Oper} (N : Next ops D i o) {j : Nat} {oj : Oper} (hj : D j = false) (ho : ops[j]? = some oj) (hlt : j < i) :
    PairOK ops.toList oj o ⟨nd j, (St (j + 1)).lg, (St j).nx, (St (j + 1)).nx⟩ ⟨nd i, (St (i + 1)).lg, (St i).nx, (St (i + 1)).nx⟩ := by
  rcases H.pair j i oj o hlt ho N.at_ with h | h
  · have := h (fun x => D x = true) (fun x o' hx hox e he hb => I.closed x o' hx hox e he hb) N.ready
    rw [hj] at this; cases this
  · exact h

theorem DR.slot_at {ds : List Deferred} {ρ0 ρ : Rho} {w0 w : World} {D : Nat → Bool} {Hh : Hp} {a : Act} (I : Inv ds ops n St ρ0 w0 D ρ Hh a w) {i : Nat} {o : Oper} (N : Next ops D i o) {t : Nat} (ht : t ∈ looks ops.toList o) :
    RVR (rst ρ (St i).nx) (slot n (St i).sl t) (a.tmps.getD t undef) := by
  have hi : i < ops.size := lt_of_get N.at_
  obtain ⟨m, m1, m2, m3, m4⟩ := I.slots t
  have hmi : m ≤ i := by
    rcases m4 with rfl | ⟨m', rfl, d1, oj, d2, d3⟩
    · omega
    · rcases Nat.lt_trichotomy m' i with h | h | h
      · omega
      · subst h; rw [N.not] at d1; cases d1
      · exact absurd ht ((H.later I N d1 d2 h).a2 t d3)
  have hsame := H.slot_same (t := t) hmi (by omega) fun j h1 h2 ⟨oj, d2, d3⟩ => by
    cases hj : D j with
    | true => have := m3 j hj ⟨oj, d2, d3⟩; omega
    | false => exact (H.earlier I N hj d2 h2).a1 t d3 ht
  have e : slot n (St i).sl t = slot n (St m).sl t := by unfold slot; rw [hsame]
  rw [e]
  exact m2.mono (rst_mono (Sub.refl _) (H.le hmi (by omega)))

theorem DR.heap_at {ds : List Deferred} {ρ0 ρ : Rho} {w0 w : World} {D : Nat → Bool} {Hh : Hp} {a : Act} (I : Inv ds ops n St ρ0 w0 D ρ Hh a w) {i : Nat} {o : Oper} (N : Next ops D i o) {nm : Nat} (hlt : nm < (St i).nx)
    (hneed : match nd i with | some l => nm ∈ l | none => True) :
    Hh nm = (St i).hp.get nm ∧ ∀ x, Hh nm = some x → ∃ b c o, ρ nm = some (b, c) ∧ w.heap[b]? = some o ∧ BlkR (rst ρ (St i).nx) c x o := by
  have hi : i < ops.size := lt_of_get N.at_
  obtain ⟨m, m1, m2, m3, m4, m5⟩ := I.heap nm
  have lat : ∀ j, D j = true → i < j → ¬ Turns St j nm := by
    intro j hj hij ht
    have hjs := I.inside j hj
    have p := H.later I N hj (Array.getElem?_eq_getElem hjs) hij
    have hle := H.le (show i ≤ j by omega) (by omega)
    rcases ht with ht | ⟨ht, _⟩
    · have := p.n2
      cases hn : nd i with
      | none => rw [hn] at this; have := this nm ht; simp only at this; omega
      | some l => rw [hn] at this hneed; exact this nm hneed ht
    · omega
  have ear : ∀ j, j < i → Turns St j nm → D j = true := by
    intro j hji ht
    cases hj : D j with
    | true => rfl
    | false =>
      exfalso
      have hjs : j < ops.size := by omega
      have p := H.earlier I N hj (Array.getElem?_eq_getElem hjs) hji
      have := p.n1
      cases hn : nd i with
      | none =>
        rw [hn] at this
        simp only at this
        rcases ht with ht | ht
        · rw [this.1] at ht; cases ht
        · omega
      | some l =>
        rw [hn] at this hneed
        have := this nm hneed
        rcases ht with ht | ht
        · exact this.1 ht
        · exact this.2 ht
  have hmi : m ≤ i := by
    rcases m4 with rfl | ⟨m', rfl, d1, d2⟩
    · omega
    · rcases Nat.lt_trichotomy m' i with h | h | h
      · omega
      · subst h; rw [N.not] at d1; cases d1
      · exact absurd d2 (lat m' d1 h)
  have hnow : ∀ j, m ≤ j → j < i → ¬ Turns St j nm := fun j h1 h2 ht => by
    have := m3 j (ear j h2 ht) ht; omega
  have hm0 : (St i).hp.get nm = (St m).hp.get nm := by
    by_cases hnm : nm < (St m).nx
    · exact H.hp_same hmi (by omega) hnm hnow
    · -- the name is made between: then it was turned there
      exfalso
      have key : ∀ k, m + k ≤ i → nm < (St (m + k)).nx → ∃ j, m ≤ j ∧ j < i ∧ Turns St j nm := by
        intro k
        induction k with
        | zero => intro _ h; exact absurd h hnm
        | succ k ih =>
          intro h1 h2
          by_cases h3 : nm < (St (m + k)).nx
          · exact ih (by omega) h3
          · exact ⟨m + k, by omega, by omega, .inr ⟨by omega, h2⟩⟩
      obtain ⟨j, j1, j2, j3⟩ := key (i - m) (by omega) (by rw [show m + (i - m) = i by omega]; exact hlt)
      exact hnow j j1 j2 j3
  refine ⟨by rw [m2, hm0], fun x hx => ?_⟩
  obtain ⟨b, c, o, g1, g2, g3⟩ := m5 x hx
  exact ⟨b, c, o, g1, g2, g3.mono (rst_mono (Sub.refl _) (H.le hmi (by omega)))⟩

end
end Go.Sx

namespace Go.Sx
variable {P : Program}

section
variable {n : Nat} {ops : Array Oper} {St : Nat → S} {nd : Nat → Need} (H : DR P n ops St nd)
include H

/-- one more done -/
theorem DR.step {ds : List Deferred} (ro : Option Nat) {ρ0 ρ : Rho} {w0 w : World} {D D' : Nat → Bool} {Hh : Hp} {a : Act} (I : Inv ds ops n St ρ0 w0 D ρ Hh a w) {i : Nat} {o : Oper} (N : Next ops D i o) (hD : ∀ j, D' j = if j = i then true else D j)
    {next : Act → World → Prop} {Q : Exit → Act → World → Prop} (hn : ∀ V w' ρ' Hh', Inv ds ops n St ρ0 w0 D' ρ' Hh' (a.put o.dst V) w' → next (a.put o.dst V) w') :
    if Region.wanted o (yielded ops a.tmps) then o.wpIn (FR ro) 0 P a w next Q else next (a.put o.dst undef) w := by
  have hi : i < ops.size := lt_of_get N.at_
  have loc := H.loc i o N.at_
  have nxle : (St i).nx ≤ (St (i + 1)).nx := loc.abs.le
  have nx0 : (St 0).nx ≤ (St i).nx := H.le (by omega) (by omega)
  let A : Nat → Prop := fun nm => nm < (St i).nx ∧ (match nd i with | some l => nm ∈ l | none => True)
  let h : Hp := fun nm => if nm < (St i).nx then (match nd i with | some l => if nm ∈ l then Hh nm else none | none => Hh nm) else none
  have hA : ∀ nm x, h nm = some x → A nm ∧ Hh nm = some x := by
    intro nm x hx
    simp only [h] at hx
    split at hx
    · rename_i hlt
      cases hnd : nd i with
      | none => rw [hnd] at hx; exact ⟨⟨hlt, by rw [hnd]; trivial⟩, hx⟩
      | some l =>
        rw [hnd] at hx
        simp only at hx
        split at hx
        · rename_i hm; exact ⟨⟨hlt, by rw [hnd]; exact hm⟩, hx⟩
        · cases hx
    · cases hx
  have hAt : ∀ nm, A nm → h nm = Hh nm := by
    intro nm ⟨h1, h2⟩
    simp only [h, if_pos h1]
    cases hnd : nd i with
    | none => rfl
    | some l => rw [hnd] at h2; simp only [if_pos h2]
  have hrel : HRel (rst ρ (St i).nx) h w := by
    constructor
    · intro nm x hx
      obtain ⟨hA1, hx1⟩ := hA nm x hx
      obtain ⟨b, c, o', g1, g2, g3⟩ := (H.heap_at I N hA1.1 hA1.2).2 x hx1
      exact ⟨b, c, o', by rw [rst_nm, if_pos hA1.1]; exact g1, g2, g3⟩
    · intro nm nm' x y b c c' hx hy hw h1 h2
      exact I.inj nm nm' x y b c c' (hA _ _ hx).2 (hA _ _ hy).2 hw (rst_sub _ _ h1) (rst_sub _ _ h2)
    · exact fun b l hb => ⟨(I.fz b l hb).1, fun nm x c hx hw he => (I.fz b l hb).2 nm x c (hA _ _ hx).2 hw (rst_sub _ _ he)⟩
  have hfr : Fresh (rst ρ (St i).nx) (St i).nx := by
    intro nm hnm
    rw [rst_nm, if_neg (by omega)]
  have hneed : NeedR (nd i) { St i with lg := [] } h := by
    unfold NeedR
    cases hnd : nd i with
    | none =>
      intro nm x hx
      have hlt : nm < (St i).nx := by
        rcases Nat.lt_or_ge nm (St i).nx with h' | h'
        · exact h'
        · have := H.tops (show i ≤ ops.size by omega) nm h'
          have hx : (St i).hp.get nm = some x := hx
          rw [this] at hx; cases hx
      have hAn : A nm := ⟨hlt, by rw [hnd]; trivial⟩
      rw [hAt nm hAn, (H.heap_at I N hAn.1 hAn.2).1]
      exact hx
    | some l =>
      intro nm hm
      show h nm = (St i).hp.get nm
      by_cases hlt : nm < (St i).nx
      · have hAn : A nm := ⟨hlt, by rw [hnd]; exact hm⟩
        rw [hAt nm hAn, (H.heap_at I N hAn.1 hAn.2).1]
      · rw [H.tops (show i ≤ ops.size by omega) nm (by omega)]
        simp only [h, if_neg hlt]
  refine loc.run ro (rst ρ (St i).nx) w a h I.sz (fun t ht => ?_) hrel hfr hneed next Q fun V w' ρ' h' hv hr' hf' st hh => ?_
  · refine H.slot_at I N ?_
    simp only [looks, List.mem_append] at ht ⊢
    rcases ht with ht | ht
    · exact .inl (.inr ht)
    · exact .inr ht
  -- the new names
  let ρ'' : Rho := ⟨fun nm => if (St i).nx ≤ nm ∧ nm < (St (i + 1)).nx then ρ' nm else ρ nm, ρ'.fz⟩
  have hold : ∀ nm b, (St i).nx ≤ nm → nm < (St (i + 1)).nx → ρ nm ≠ some b := by
    intro nm b h1 h2 hb
    rcases I.dom nm b hb with h3 | ⟨j, d1, d2, d3⟩
    · omega
    · have hj := I.inside j d1
      rcases Nat.lt_trichotomy j i with h4 | h4 | h4
      · have := H.le (show j + 1 ≤ i by omega) (by omega); omega
      · subst h4; rw [N.not] at d1; cases d1
      · have := H.le (show i + 1 ≤ j by omega) (by omega); omega
  have hsub : Sub ρ ρ'' := by
    refine ⟨?_, fun b l h => st.fzk b l h⟩
    intro nm b hb
    show (if _ then _ else _) = _
    rw [if_neg fun hc => hold nm b hc.1 hc.2 hb]
    exact hb
  have hρ'1 : ∀ nm, nm < (St i).nx → ρ' nm = ρ nm := fun nm hlt => by
    rw [st.rho nm hlt]
    rw [rst_nm, if_pos hlt]
  have hρ' : Sub ρ' (rst ρ'' (St (i + 1)).nx) := by
    refine ⟨?_, fun _ _ h => h⟩
    intro nm b hb
    have hlt : nm < (St (i + 1)).nx := by
      rcases Nat.lt_or_ge nm (St (i + 1)).nx with h1 | h1
      · exact h1
      · rw [hf' nm h1] at hb; cases hb
    rw [rst_nm, if_pos hlt]
    show (if _ then _ else _) = _
    by_cases hc : (St i).nx ≤ nm
    · rw [if_pos ⟨hc, hlt⟩]; exact hb
    · rw [if_neg fun h => hc h.1, ← hρ'1 nm (by omega)]; exact hb
  let T : Nat → Prop := Turns St i
  have hT : ∀ nm, T nm → h' nm = (St (i + 1)).hp.get nm := fun nm ht => by
    rcases ht with ht | ht
    · exact hh nm (.inl ht)
    · exact hh nm (.inr ht.1)
  have hTlt : ∀ nm, T nm → nm < (St (i + 1)).nx := fun nm ht => by
    rcases ht with ht | ht
    · exact loc.abs.lt nm ht
    · exact ht.2
  have hTval : ∀ nm, T nm → ρ'' nm = ρ' nm := by
    intro nm ht
    show (if _ then _ else _) = _
    by_cases hc : (St i).nx ≤ nm
    · rw [if_pos ⟨hc, hTlt nm ht⟩]
    · rw [if_neg fun h => hc h.1, hρ'1 nm (by omega)]
  -- a block of our own turn is nobody else's
  have hown : ∀ nm, nm ∈ (St (i + 1)).lg → nm < (St i).nx → ∃ x, Hh nm = some x ∧ x.wr = true := by
    intro nm h1 h2
    obtain ⟨x, g1, g2⟩ := st.own nm h1 h2
    exact ⟨x, (hA nm x g1).2, g2⟩
  have noW : ∀ nm b c x, ¬ T nm → Hh nm = some x → ρ nm = some (b, c) → ∀ nm0 c0, nm0 ∈ (St (i + 1)).lg → nm0 < (St i).nx → rst ρ (St i).nx nm0 ≠ some (b, c0) := by
    intro nm b c x h1 h2 h3 nm0 c0 h4 h5 h6
    obtain ⟨x0, g1, g2⟩ := hown nm0 h4 h5
    have := I.inj nm0 nm x0 x b c0 c g1 h2 g2 (rst_sub _ _ h6) h3
    subst this
    exact h1 (.inl h4)
  have keepB : ∀ nm b c x, ¬ T nm → Hh nm = some x → ρ nm = some (b, c) → b < w.heap.size → w'.heap[b]? = w.heap[b]? := by
    intro nm b c x h1 h2 h3 h4
    exact st.frame b h4 fun nm0 c0 m1 m2 => noW nm b c x h1 h2 h3 nm0 c0 m1 m2
  have blk : ∀ nm x, Hh nm = some x → ∃ b c o, ρ nm = some (b, c) ∧ w.heap[b]? = some o := by
    intro nm x hx
    obtain ⟨m, _, _, _, _, m5⟩ := I.heap nm
    obtain ⟨b, c, o', g1, g2, _⟩ := m5 x hx
    exact ⟨b, c, o', g1, g2⟩
  have mixed : ∀ p q x y b c c', T p → ¬ T q → h' p = some x → Hh q = some y → ρ'' p = some (b, c) → ρ'' q = some (b, c') → False := by
    intro p q x y b c c' hp hq hx hy h1 h2
    obtain ⟨b', c'', o', g1, g2⟩ := blk q y hy
    have e := hsub _ _ g1
    rw [e] at h2
    simp only [Option.some.injEq, Prod.mk.injEq] at h2
    obtain ⟨rfl, rfl⟩ := h2
    rw [hTval p hp] at h1
    by_cases hlt : p < (St i).nx
    · have hpL : p ∈ (St (i + 1)).lg := by
        rcases hp with hp | hp
        · exact hp
        · omega
      rw [st.rho p hlt] at h1
      exact noW q b' c'' y hq hy g1 p c hpL hlt h1
    · rcases st.new p b' c (by show (St i).nx ≤ p; omega) h1 with h3 | ⟨nm0, c0, m1, m2, m3⟩
      · have := lt_of_get g2; omega
      · exact noW q b' c'' y hq hy g1 nm0 c0 m1 m2 m3
  classical
  let Hh' : Hp := fun nm => if T nm then h' nm else Hh nm
  refine hn V w' ρ'' Hh' ⟨?_, ?_, by rw [put_size]; exact I.sz, by rw [put_defers]; exact I.df, ?_, ?_, ?_, ?_, ?_, Nat.le_trans I.size st.size, ?_, ?_, ?_, by rw [st.os, I.os], by rw [st.tape, I.tape], by rw [st.out, I.out], ?_, fun b l h => st.fzk b l (I.fzk b l h), ?_⟩
  · -- closed
    intro j oj hj ho e he hb
    rw [hD] at hj ⊢
    by_cases e1 : j = i
    · subst e1
      rw [N.at_] at ho
      simp only [Option.some.injEq] at ho
      subst ho
      split
      · rfl
      · exact N.ready e he hb
    · rw [if_neg e1] at hj
      split
      · rfl
      · exact I.closed j oj hj ho e he hb
  · intro j hj
    rw [hD] at hj
    split at hj
    · rename_i e; subst e; exact hi
    · exact I.inside j hj
  · -- slots
    intro t
    by_cases hd : o.dst = some t
    · refine ⟨i + 1, by omega, ?_, ?_, .inr ⟨i, rfl, by rw [hD, if_pos rfl], o, N.at_, hd⟩⟩
      · rw [put_getD, if_pos ⟨hd, by rw [I.sz]; exact loc.dst t hd⟩]
        exact (hv t hd).mono hρ'
      · intro j hj ⟨oj, d2, d3⟩
        rw [hD] at hj
        by_cases e1 : j = i
        · omega
        · rw [if_neg e1] at hj
          rcases Nat.lt_or_ge j (i + 1) with h4 | h4
          · exact h4
          · exfalso
            have p := H.later I N hj d2 (by omega)
            refine p.a1 t hd ?_
            simp [looks, d3]
    · obtain ⟨m, m1, m2, m3, m4⟩ := I.slots t
      refine ⟨m, m1, ?_, ?_, ?_⟩
      · rw [put_getD, if_neg fun h => hd h.1]
        exact m2.mono (rst_mono hsub (Nat.le_refl _))
      · intro j hj hw
        rw [hD] at hj
        by_cases e1 : j = i
        · subst e1
          obtain ⟨oj, d2, d3⟩ := hw
          rw [N.at_] at d2
          simp only [Option.some.injEq] at d2
          subst d2
          exact absurd d3 hd
        · rw [if_neg e1] at hj
          exact m3 j hj hw
      · rcases m4 with h1 | ⟨m', h1, h2, h3⟩
        · exact .inl h1
        · exact .inr ⟨m', h1, by rw [hD]; split <;> first | rfl | exact h2, h3⟩
  · -- heap
    intro nm
    by_cases hc : T nm
    · refine ⟨i + 1, by omega, ?_, ?_, .inr ⟨i, rfl, by rw [hD, if_pos rfl], hc⟩, ?_⟩
      · show (if T nm then h' nm else Hh nm) = _
        rw [if_pos hc, hT nm hc]
      · intro j hj ht
        rw [hD] at hj
        by_cases e1 : j = i
        · omega
        · rw [if_neg e1] at hj
          rcases Nat.lt_or_ge j (i + 1) with h4 | h4
          · exact h4
          · exfalso
            have hjs := I.inside j hj
            have p := H.later I N hj (Array.getElem?_eq_getElem hjs) (by omega)
            have hle := H.le (show i + 1 ≤ j by omega) (by omega)
            have hlt := hTlt nm hc
            rcases ht with ht | ht
            · rcases hc with hc | hc
              · exact p.w1 nm hc ht
              · exact p.w2 nm ht hc
            · omega
      · intro x hx
        have hx : h' nm = some x := by
          have : (if T nm then h' nm else Hh nm) = some x := hx
          rwa [if_pos hc] at this
        obtain ⟨b, c, o', g1, g2, g3⟩ := hr'.ok nm x hx
        exact ⟨b, c, o', by rw [hTval nm hc]; exact g1, g2, g3.mono hρ'⟩
    · obtain ⟨m, m1, m2, m3, m4, m5⟩ := I.heap nm
      refine ⟨m, m1, ?_, ?_, ?_, ?_⟩
      · show (if T nm then h' nm else Hh nm) = _
        rw [if_neg hc, m2]
      · intro j hj ht
        rw [hD] at hj
        by_cases e1 : j = i
        · subst e1; exact absurd ht hc
        · rw [if_neg e1] at hj
          exact m3 j hj ht
      · rcases m4 with h1 | ⟨m', h1, h2, h3⟩
        · exact .inl h1
        · exact .inr ⟨m', h1, by rw [hD]; split <;> first | rfl | exact h2, h3⟩
      · intro x hx
        have hx : Hh nm = some x := by
          have : (if T nm then h' nm else Hh nm) = some x := hx
          rwa [if_neg hc] at this
        obtain ⟨b, c, o', g1, g2, g3⟩ := m5 x hx
        exact ⟨b, c, o', hsub _ _ g1, by rw [keepB nm b c x hc hx g1 (lt_of_get g2)]; exact g2, g3.mono (rst_mono hsub (Nat.le_refl _))⟩
  · -- inj
    intro p q x y b c c' hx hy hw h1 h2
    have hx : (if T p then h' p else Hh p) = some x := hx
    have hy : (if T q then h' q else Hh q) = some y := hy
    by_cases hp : T p <;> by_cases hq : T q
    · rw [if_pos hp] at hx
      rw [if_pos hq] at hy
      rw [hTval p hp] at h1
      rw [hTval q hq] at h2
      exact hr'.inj p q x y b c c' hx hy hw h1 h2
    · rw [if_pos hp] at hx
      rw [if_neg hq] at hy
      exact (mixed p q x y b c c' hp hq hx hy h1 h2).elim
    · rw [if_neg hp] at hx
      rw [if_pos hq] at hy
      exact (mixed q p y x b c' c hq hp hy hx h2 h1).elim
    · rw [if_neg hp] at hx
      rw [if_neg hq] at hy
      obtain ⟨b1, c1, o1, g1, _⟩ := blk p x hx
      obtain ⟨b2, c2, o2, g2, _⟩ := blk q y hy
      rw [hsub _ _ g1] at h1
      rw [hsub _ _ g2] at h2
      rw [h1] at g1
      rw [h2] at g2
      exact I.inj p q x y b c c' hx hy hw g1 g2
  · -- dom
    intro nm b hb
    have hb : (if (St i).nx ≤ nm ∧ nm < (St (i + 1)).nx then ρ' nm else ρ nm) = some b := hb
    split at hb
    · rename_i hc
      exact .inr ⟨i, by rw [hD, if_pos rfl], hc⟩
    · rcases I.dom nm b hb with h1 | ⟨j, d1, d2⟩
      · exact .inl h1
      · exact .inr ⟨j, by rw [hD]; split <;> first | rfl | exact d1, d2⟩
  · -- rho0
    intro nm hlt
    show (if _ then _ else _) = _
    rw [if_neg (by omega)]
    exact I.rho0 nm hlt
  · -- frame
    intro b hb hL
    have e1 := I.frame b hb fun j nm c hj => hL j nm c (by rw [hD]; split <;> first | rfl | exact hj)
    rw [← e1]
    refine st.frame b (Nat.lt_of_lt_of_le hb I.size) fun nm c h1 h2 h3 => ?_
    have h3 := rst_sub _ _ h3
    by_cases hlt : nm < (St 0).nx
    · rw [I.rho0 nm hlt] at h3
      exact hL i nm c (by rw [hD, if_pos rfl]) h1 hlt h3
    · rcases I.new nm b c (by omega) h3 with h4 | ⟨j, nm0, c0, d1, d2, d3, d4⟩
      · omega
      · exact hL j nm0 c0 (by rw [hD]; split <;> first | rfl | exact d1) d2 d3 d4
  · -- new
    intro nm b c hle hb
    have lift : (w0.heap.size ≤ b ∨ ∃ j nm0 c0, D j = true ∧ nm0 ∈ (St (j + 1)).lg ∧ nm0 < (St 0).nx ∧ ρ0 nm0 = some (b, c0)) → (w0.heap.size ≤ b ∨ ∃ j nm0 c0, D' j = true ∧ nm0 ∈ (St (j + 1)).lg ∧ nm0 < (St 0).nx ∧ ρ0 nm0 = some (b, c0)) := by
      rintro (h1 | ⟨j, nm0, c0, d1, d2⟩)
      · exact .inl h1
      · exact .inr ⟨j, nm0, c0, by rw [hD]; split <;> first | rfl | exact d1, d2⟩
    have hb : (if (St i).nx ≤ nm ∧ nm < (St (i + 1)).nx then ρ' nm else ρ nm) = some (b, c) := hb
    split at hb
    · rename_i hc
      rcases st.new nm b c hc.1 hb with h1 | ⟨nm0, c0, m1, m2, m3⟩
      · exact .inl (Nat.le_trans I.size h1)
      · have m3 := rst_sub _ _ m3
        by_cases hlt : nm0 < (St 0).nx
        · rw [I.rho0 nm0 hlt] at m3
          exact .inr ⟨i, nm0, c0, by rw [hD, if_pos rfl], m1, hlt, m3⟩
        · exact lift (I.new nm0 b c0 (by omega) m3)
    · exact lift (I.new nm b c hle hb)
  · -- own
    intro j nm hj hm hlt
    rw [hD] at hj
    by_cases e1 : j = i
    · subst e1
      obtain ⟨x, g1, g2⟩ := hown nm hm (by omega)
      obtain ⟨m, m1, m2, m3, m4, m5⟩ := I.heap nm
      rcases m4 with rfl | ⟨m', rfl, d1, d2⟩
      · rw [m2] at g1; exact ⟨x, g1, g2⟩
      · rcases d2 with d2 | d2
        · exact I.own m' nm d1 d2 hlt
        · have hm' := I.inside m' d1
          have := H.le (show 0 ≤ m' by omega) (by omega)
          omega
    · rw [if_neg e1] at hj
      exact I.own j nm hj hm hlt
  · -- frozen
    intro b l hb
    refine ⟨(hr'.fz b l hb).1, fun nm x c hx hw he => ?_⟩
    have hx : (if T nm then h' nm else Hh nm) = some x := hx
    by_cases hc : T nm
    · rw [if_pos hc] at hx
      rw [hTval nm hc] at he
      exact (hr'.fz b l hb).2 nm x c hx hw he
    · rw [if_neg hc] at hx
      obtain ⟨b', c', o', g1, g2⟩ := blk nm x hx
      rw [hsub _ _ g1] at he
      simp only [Option.some.injEq, Prod.mk.injEq] at he
      obtain ⟨rfl, rfl⟩ := he
      rcases st.fzn b' l hb with h1 | h1 | ⟨nm0, c0, m1, m2, m3⟩
      · exact (I.fz b' l h1).2 nm x c' hx hw g1
      · have := lt_of_get g2; omega
      · exact noW nm b' c' x hc hx g1 nm0 c0 m1 m2 m3
  · -- newly frozen
    intro b l h
    have lift : (w0.heap.size ≤ b ∨ ∃ j nm0 c0, D j = true ∧ nm0 ∈ (St (j + 1)).lg ∧ nm0 < (St 0).nx ∧ ρ0 nm0 = some (b, c0)) → (w0.heap.size ≤ b ∨ ∃ j nm0 c0, D' j = true ∧ nm0 ∈ (St (j + 1)).lg ∧ nm0 < (St 0).nx ∧ ρ0 nm0 = some (b, c0)) := by
      rintro (h1 | ⟨j, nm0, c0, d1, d2⟩)
      · exact .inl h1
      · exact .inr ⟨j, nm0, c0, by rw [hD]; split <;> first | rfl | exact d1, d2⟩
    rcases st.fzn b l h with h1 | h1 | ⟨nm0, c0, m1, m2, m3⟩
    · exact (I.fzn b l h1).elim .inl fun h => .inr (lift h)
    · exact .inr (.inl (Nat.le_trans I.size h1))
    · have m3 := rst_sub _ _ m3
      by_cases hlt : nm0 < (St 0).nx
      · rw [I.rho0 nm0 hlt] at m3
        exact .inr (.inr ⟨i, nm0, c0, by rw [hD, if_pos rfl], m1, hlt, m3⟩)
      · exact .inr (lift (I.new nm0 b c0 (by omega) m3))

end
end Go.Sx

namespace Go.Sx
variable {P : Program}

theorem allLogs_ok : ∀ (fps : List FP) (acc : List Nat), ∃ L, allLogs fps acc = L ++ acc ∧ ∀ x, x ∈ L ↔ ∃ f ∈ fps, x ∈ f.wr
  | [], acc => ⟨[], rfl, by simp⟩
  | f :: r, acc => by
    obtain ⟨L, h1, h2⟩ := allLogs_ok r (f.wr ++ acc)
    refine ⟨L ++ f.wr, by rw [allLogs, h1, List.append_assoc], fun x => ?_⟩
    rw [List.mem_append, h2]
    simp only [List.mem_cons, exists_eq_or_imp]
    exact Or.comm

section
variable {n : Nat} {ops : Array Oper} {St : Nat → S} {nd : Nat → Need} (H : DR P n ops St nd)
include H

omit H in
theorem getD_set (listed : Array Bool) (i j : Nat) (h : i < listed.size) : (listed.setIfInBounds i true).getD j false = if j = i then true else listed.getD j false := by
  rw [Array.getD_eq_getD_getElem?, Array.getD_eq_getD_getElem?, Array.getElem?_setIfInBounds]
  by_cases e : i = j
  · subst e; simp [h]
  · rw [if_neg e, if_neg (fun h => e h.symm)]

theorem DR.all {ds : List Deferred} (ro : Option Nat) {ρ0 : Rho} {w0 : World} {Q : Exit → Act → World → Prop} (hQ : ∀ D ρ Hh a w, (∀ j, j < ops.size → D j = true) → Inv ds ops n St ρ0 w0 D ρ Hh a w → Q .normal a w) :
    ∀ (fuel : Nat) (listed : Array Bool) (ρ : Rho) (Hh : Hp) (a : Act) (w : World), listed.size = ops.size → Inv ds ops n St ρ0 w0 (fun j => listed.getD j false) ρ Hh a w → ops.size ≤ fuel + cnt (fun j => listed.getD j false) ops.size →
      wpAnyIn (FR ro) 0 P .any ops Q fuel listed a w := by
  intro fuel
  induction fuel with
  | zero =>
    intro listed ρ Hh a w hs I hc
    have hall : ∀ j, j < ops.size → listed.getD j false = true := cnt_all (fun j => listed.getD j false) _ (by rw [Nat.zero_add] at hc; exact hc)
    refine ⟨?_, hQ _ ρ Hh a w hall I⟩
    apply List.eq_nil_iff_forall_not_mem.2
    intro j hj
    rw [mem_ready] at hj
    obtain ⟨h0, o, ho, _⟩ := hj
    have hlt := lt_of_get ho
    have := hall j hlt
    rw [Array.getD_eq_getD_getElem?, Array.getElem?_eq_getElem (by omega)] at h0 this
    simp at h0 this
    rw [h0] at this; cases this
  | succ fuel ih =>
    intro listed ρ Hh a w hs I hc
    refine ⟨fun hr => ?_, fun i hi => ?_⟩
    · -- all is done
      refine hQ _ ρ Hh a w ?_ I
      have key : ∀ j, j < ops.size → (∀ k, k < j → listed.getD k false = true) → listed.getD j false = true := by
        intro j hj hk
        cases hl : listed.getD j false with
        | true => rfl
        | false =>
          exfalso
          have hmem : j ∈ Region.ready .any ops listed := by
            rw [mem_ready]
            refine ⟨?_, ops[j], Array.getElem?_eq_getElem hj, fun e he hb => hk _ (H.back j _ (Array.getElem?_eq_getElem hj) e he hb)⟩
            rw [Array.getD_eq_getD_getElem?, Array.getElem?_eq_getElem (by omega)] at hl ⊢
            simpa using hl
          rw [hr] at hmem; cases hmem
      intro j hj
      induction j using Nat.strongRecOn with
      | _ j ihj => exact key j hj fun k hk => ihj k hk (by omega)
    · rw [mem_ready] at hi
      obtain ⟨h0, o, ho, hre⟩ := hi
      have hlt := lt_of_get ho
      have hnot : listed.getD i false = false := by
        rw [Array.getD_eq_getD_getElem?, Array.getElem?_eq_getElem (by omega)] at h0 ⊢
        simpa using h0
      have hset := fun j => getD_set listed i j (by omega)
      have := H.step ro (D' := fun j => (listed.setIfInBounds i true).getD j false) (Q := Q) (next := wpAnyIn (FR ro) 0 P .any ops Q fuel (listed.setIfInBounds i true)) I ⟨ho, hnot, hre⟩ hset fun V w' ρ' Hh' I' =>
        ih (listed.setIfInBounds i true) ρ' Hh' _ w' (by simpa using hs) I' (by
          have := cnt_set (f := fun j => listed.getD j false) (g := fun j => (listed.setIfInBounds i true).getD j false) (j := i) hset hlt hnot
          omega)
      unfold wpOpIn
      rw [ho]
      simp only
      split
      · rename_i hw
        rw [if_pos hw] at this
        exact this
      · rename_i hw
        rw [if_neg hw] at this
        exact ⟨fun _ _ => trivial, this⟩

end

theorem draw_of {β : Type} (hm : P.follows .mixedOrders = true) {n id : Nat} {ops : Array Oper} {s : S} {k : S → Option β} {r : β} {St : Nat → S} {nd : Nat → Need} (ht : Top s) (hring : noRing ops.toList ops.toList 0 = true) (e0 : St 0 = s)
    (hloc : ∀ i o, ops.toList[i]? = some o → OpLoc P n ops o { St i with lg := [] } (nd i) (St (i + 1)) (St (i + 1)).lg)
    (hpairs : pairsAll ops.toList ops.toList (befs ops.toList []) ((List.range ops.toList.length).map fun i => (⟨nd i, (St (i + 1)).lg, (St i).nx, (St (i + 1)).nx⟩ : FP)) [] [] = true)
    (hk : k { St ops.toList.length with lg := allLogs ((List.range ops.toList.length).map fun i => (⟨nd i, (St (i + 1)).lg, (St i).nx, (St (i + 1)).nx⟩ : FP)) s.lg } = some r) :
    SeqOK n s k r (fun ro Q => (Code.region id ops true).wpIn (FR ro) 0 P Q) := by
  have hlen : ops.toList.length = ops.size := by simp
  rw [hlen] at hk hpairs
  have toL : ∀ {i : Nat} {o : Oper}, ops[i]? = some o → ops.toList[i]? = some o := fun h => by simpa using h
  have H : DR P n ops St nd := by
    refine ⟨by rw [e0]; exact ht, fun i o ho => hloc i o (toL ho), fun i o ho e he hb => ?_, fun i j oi oj hlt hoi hoj => ?_⟩
    · have := noRing_ok hring i o (toL ho) e he hb
      simpa using this
    · have hjs := lt_of_get hoj
      have his := lt_of_get hoi
      have hbl : (befs ops.toList []).length = ops.size := by rw [befs_len]; simp
      have hmj : (befs ops.toList [])[j]? = some ((befs ops.toList []).getD j 0) := by
        rw [List.getD_eq_getElem?_getD, List.getElem?_eq_getElem (by omega)]; rfl
      have hfj : ∀ j, j < ops.size → ((List.range ops.size).map fun i => (⟨nd i, (St (i + 1)).lg, (St i).nx, (St (i + 1)).nx⟩ : FP))[j]? = some ⟨nd j, (St (j + 1)).lg, (St j).nx, (St (j + 1)).nx⟩ := fun j hj => by
        rw [List.getElem?_map, List.getElem?_range hj]; rfl
      rcases pairsAll_ok hpairs rfl j oj _ _ (toL hoj) hmj (hfj j hjs) i oi _ (by simpa using hlt) (by simpa using toL hoi) (by rw [List.nil_append]; exact hfj i his) with h1 | h1
      · refine .inl fun D hcl hre => ?_
        obtain ⟨_, g2⟩ := befs_ok (D := D) ops.toList [] (by intro j i _ h; simp at h) (fun j o ho hD e he hb => hcl j o (by simpa using hD) (by simpa using ho) e he hb)
        exact g2 j oj (toL hoj) hre i (by simpa using h1)
      · exact .inr h1
  obtain ⟨L, hL1, hL2⟩ := allLogs_ok ((List.range ops.size).map fun i => (⟨nd i, (St (i + 1)).lg, (St i).nx, (St (i + 1)).nx⟩ : FP)) s.lg
  have hmemL : ∀ x, x ∈ L ↔ ∃ j, j < ops.size ∧ x ∈ (St (j + 1)).lg := by
    intro x
    rw [hL2]
    constructor
    · rintro ⟨f, hf, hx⟩
      rw [List.mem_map] at hf
      obtain ⟨j, hj, rfl⟩ := hf
      exact ⟨j, List.mem_range.1 hj, hx⟩
    · rintro ⟨j, hj, hx⟩
      exact ⟨_, List.mem_map.2 ⟨j, List.mem_range.2 hj, rfl⟩, hx⟩
  have hkeep : ∀ nm, nm < s.nx → nm ∉ L → (St ops.size).hp.get nm = s.hp.get nm := by
    intro nm h1 h2
    rw [H.hp_same (nm := nm) (m := 0) (i := ops.size) (by omega) (Nat.le_refl _) (by rw [e0]; exact h1), e0]
    intro j _ hj ht
    rcases ht with ht | ht
    · exact h2 ((hmemL nm).2 ⟨j, hj, ht⟩)
    · have := H.le (show 0 ≤ j by omega) (by omega)
      rw [e0] at this
      omega
  have hle : s.nx ≤ (St ops.size).nx := by
    have := H.le (show 0 ≤ ops.size by omega) (Nat.le_refl _)
    rwa [e0] at this
  refine ⟨_, L, hk, ⟨hL1, hle, hkeep, H.tops (Nat.le_refl _), fun nm hm => ?_⟩, fun ro ρ a w R Q hQ => ?_⟩
  · obtain ⟨j, hj, hx⟩ := (hmemL nm).1 hm
    exact Nat.lt_of_lt_of_le ((H.abs hj).lt nm hx) (H.le (show j + 1 ≤ ops.size by omega) (Nat.le_refl _))
  · refine wpIn_region_any hm ?_
    let w1 : World := { w with drawn := w.drawn + 1 }
    have rst_eq : ∀ m, s.nx ≤ m → Sub ρ (rst ρ m) := by
      intro m hm
      refine ⟨?_, fun _ _ h => h⟩
      intro nm b hb
      rw [rst_nm, if_pos]
      · exact hb
      · rcases Nat.lt_or_ge nm s.nx with h1 | h1
        · omega
        · rw [R.fresh nm h1] at hb; cases hb
    have I0 : Inv a.defers ops n St ρ w1 (fun j => (Array.replicate ops.size false).getD j false) ρ s.hp.get a w1 := by
      have hD : ∀ j, (Array.replicate ops.size false).getD j false = false := fun j => by
        rw [Array.getD_eq_getD_getElem?, Array.getElem?_replicate]; split <;> rfl
      have no : ∀ {j : Nat} {p : Prop}, (Array.replicate ops.size false).getD j false = true → p := fun h => by rw [hD] at h; cases h
      refine ⟨fun j o h => no h, fun j h => no h, R.sz, rfl, fun t => ⟨0, by omega, ?_, fun j h => no h, .inl rfl⟩, fun nm => ⟨0, by omega, by rw [e0], fun j h => no h, .inl rfl, fun x hx => ?_⟩, R.hp.inj, fun nm b hb => ?_, fun _ _ => rfl, Nat.le_refl _, fun _ _ _ => rfl, fun nm b c h1 h2 => ?_, fun j nm h => no h, rfl, rfl, rfl, R.hp.fz, fun _ _ h => h, fun _ _ h => .inl h⟩
      · rw [e0]; exact (R.sl t).mono (rst_eq _ (Nat.le_refl _))
      · obtain ⟨b, c, o, g1, g2, g3⟩ := R.hp.ok nm x hx
        exact ⟨b, c, o, g1, g2, g3.mono (rst_eq _ (by rw [e0]; exact Nat.le_refl _))⟩
      · left
        rw [e0]
        rcases Nat.lt_or_ge nm s.nx with h1 | h1
        · exact h1
        · rw [R.fresh nm h1] at hb; cases hb
      · rw [e0] at h1
        rw [R.fresh nm h1] at h2; cases h2
    refine H.all ro (ρ0 := ρ) (w0 := w1) (fun D ρ' Hh a' w' hall I => ?_) ops.size _ ρ s.hp.get a w1 (by simp) I0 (by omega)
    -- all is done
    have hlast : ∀ t m, m ≤ ops.size → (∀ j, D j = true → Writes ops j t → j < m) → (St ops.size).sl.get t = (St m).sl.get t := fun t m hm hw => H.slot_same hm (Nat.le_refl _) fun j h1 h2 h3 => by
      have := hw j (hall j h2) h3; omega
    have hheap : Hh = (St ops.size).hp.get := by
      funext nm
      obtain ⟨m, m1, m2, m3, m4, _⟩ := I.heap nm
      rw [m2]
      by_cases hlt : nm < (St m).nx
      · exact (H.hp_same m1 (Nat.le_refl _) hlt fun j h1 h2 h3 => by
          have := m3 j (hall j h2) h3; omega).symm
      · rw [H.tops m1 nm (by omega)]
        by_cases hlt2 : nm < (St ops.size).nx
        · exfalso
          have key : ∀ k, m + k ≤ ops.size → nm < (St (m + k)).nx → ∃ j, m ≤ j ∧ j < ops.size ∧ Turns St j nm := by
            intro k
            induction k with
            | zero => intro _ h; exact absurd h hlt
            | succ k ih =>
              intro h1 h2
              by_cases h3 : nm < (St (m + k)).nx
              · exact ih (by omega) h3
              · exact ⟨m + k, by omega, by omega, .inr ⟨by omega, h2⟩⟩
          obtain ⟨j, j1, j2, j3⟩ := key (ops.size - m) (by omega) (by rw [show m + (ops.size - m) = ops.size by omega]; exact hlt2)
          have := m3 j (hall j j2) j3
          omega
        · rw [H.tops (Nat.le_refl _) nm (by omega)]
    have hfresh : Fresh ρ' (St ops.size).nx := by
      intro nm hnm
      cases hb : ρ' nm with
      | none => rfl
      | some b =>
        rcases I.dom nm b hb with h1 | ⟨j, d1, _, d2⟩
        · rw [e0] at h1; omega
        · have hj := I.inside j d1
          have := H.le (show j + 1 ≤ ops.size by omega) (Nat.le_refl _)
          omega
    have stF : Stp ρ s.hp.get s.nx w ρ' (St ops.size).hp.get (St ops.size).nx w' L := by
      refine ⟨hle, fun nm h1 => I.rho0 nm (by rw [e0]; exact h1), hkeep, I.size, fun b h1 h2 => ?_, fun nm b c h1 h2 => ?_, fun nm h1 h2 => ?_, I.os, I.tape, I.out, I.fzk, fun b l h => (I.fzn b l h).elim .inl fun h => .inr (h.elim .inl fun ⟨j, nm0, c0, d1, d2, d3, d4⟩ => .inr ⟨nm0, c0, (hmemL nm0).2 ⟨j, I.inside j d1, d2⟩, by rw [e0] at d3; exact d3, d4⟩)⟩
      · refine I.frame b h1 fun j nm c hj hm hlt => h2 nm c ((hmemL nm).2 ⟨j, I.inside j hj, hm⟩) (by rw [e0] at hlt; exact hlt)
      · rcases I.new nm b c (by rw [e0]; exact h1) h2 with h3 | ⟨j, nm0, c0, d1, d2, d3, d4⟩
        · exact .inl h3
        · exact .inr ⟨nm0, c0, (hmemL nm0).2 ⟨j, I.inside j d1, d2⟩, by rw [e0] at d3; exact d3, d4⟩
      · obtain ⟨j, hj, hx⟩ := (hmemL nm).1 h1
        have := I.own j nm (hall j hj) hx (by rw [e0]; exact h2)
        rwa [e0] at this
    refine hQ a' w' ρ' ⟨I.sz, by rw [I.df]; exact R.df.stp R.hp stF, fun t => ?_, ⟨fun nm x hx => ?_, ?_, by rw [← hheap]; exact I.fz⟩, hfresh⟩ stF I.df
    · obtain ⟨m, m1, m2, m3, _⟩ := I.slots t
      have e : slot n (St ops.size).sl t = slot n (St m).sl t := by unfold slot; rw [hlast t m m1 m3]
      show RVR ρ' (slot n (St ops.size).sl t) _
      rw [e]
      exact m2.mono rst_sub
    · have hx : Hh nm = some x := by rw [hheap]; exact hx
      obtain ⟨m, _, _, _, _, m5⟩ := I.heap nm
      obtain ⟨b, c, o, g1, g2, g3⟩ := m5 x hx
      exact ⟨b, c, o, g1, g2, g3.mono rst_sub⟩
    · intro nm nm' x y b c c' hx hy
      exact I.inj nm nm' x y b c c' (by rw [hheap]; exact hx) (by rw [hheap]; exact hy)

theorem draw_ok {z : Bool} (hng : ∀ (g : Nat) (fn : Func), P.funcs[g]? = some fn → (fn.name == "runtime.NumGoroutine") = false) (hm : P.follows .mixedOrders = true) : RegOK P z := by
  intro β call hcall n id ops s k r ht h
  unfold drawRun at h
  split at h <;> try (cases h; done)
  rename_i hring
  obtain ⟨St, nd, e0, hloc, hk⟩ := drawGo_ok hcall hng (ops := ops) (rest := ops.toList) ht h
  simp only [List.nil_append] at hk
  split at hk
  · rename_i hpairs
    exact draw_of hm ht hring e0 hloc hpairs hk
  · obtain ⟨St, nd, e0, hloc, hk⟩ := drawGoI_ok hcall hng (ops := ops) (rest := ops.toList) ht hk
    simp only [List.nil_append] at hk
    split at hk <;> try (cases hk; done)
    rename_i hpairs
    exact draw_of hm ht hring e0 hloc hpairs hk

/-- **The executor is sound**, ranges over functions (z) and all. -/
theorem exec_soundM {β : Type} {z : Bool} {Sg : FuncId → Option Sum} (hng : ∀ (g : Nat) (fn : Func), P.funcs[g]? = some fn → (fn.name == "runtime.NumGoroutine") = false) (hm : P.follows .mixedOrders = true) (hS : SumOK P Sg) (f : Nat) :
    ExecM P z (exec (β := β) P Sg z f) := exec_okM hng hS (draw_ok hng hm) f
theorem exec_sound {β : Type} {Sg : FuncId → Option Sum} (hng : ∀ (g : Nat) (fn : Func), P.funcs[g]? = some fn → (fn.name == "runtime.NumGoroutine") = false) (hm : P.follows .mixedOrders = true) (hS : SumOK P Sg) (f : Nat) :
    ExecOK P (exec (β := β) P Sg false f) := (exec_soundM hng hm hS f).ok

end Go.Sx

namespace Go.Sx
open Go.RowKit
variable {P : Program}

/-- a call that is made from its body (no summary of its own) -/
noncomputable def runB (P : Program) (Sg : FuncId → Option Sum) (z : Bool) {β : Type} (fuel : Nat) (g : FuncId) (args : List RV) (s : S) (k : RV → S → Option β) : Option β :=
  match P.funcs[g]? with
  | none => none
  | some fn => match fn.body with
    | none => none
    | some c => bodyRun P (exec P Sg z fuel) fn c args s k

def s0 : S := ⟨.nil, .nil, 0, []⟩

structure Fit (P : Program) (Sg : FuncId → Option Sum) : Prop where
  ng : ∀ (g : Nat) (fn : Func), P.funcs[g]? = some fn → (fn.name == "runtime.NumGoroutine") = false
  mixed : P.follows .mixedOrders = true
  sums : SumOK P Sg

theorem runB_info {Sg : FuncId → Option Sum} {z : Bool} (F : Fit P Sg) {β : Type} {fuel : Nat} {g : FuncId} {args : List RV} {s : S} {k : RV → S → Option β} {r : β} (ht : Top s)
    (h : runB P Sg z fuel g args s k = some r) : ∃ v s' L, k v s' = some r ∧ CallInfo P g args s v s' L := by
  unfold runB at h
  split at h <;> try (cases h; done)
  rename_i fn hf
  split at h <;> try (cases h; done)
  rename_i c hb
  exact body_calls (exec_soundM F.ng F.mixed F.sums fuel) hf hb ht h

theorem Below.stp {ρ : Rho} {hp : Hp} {nx : Nat} {w w' : World} (hf : Fresh ρ nx) (b : Below w.heap.size w w') : Stp ρ hp nx w ρ hp nx w' [] where
  le := Nat.le_refl _
  rho := fun _ _ => rfl
  keep := fun _ _ _ => rfl
  size := b.size
  frame := fun k hk _ => b.block k hk
  new := fun nm bb c h1 h2 => by rw [hf nm h1] at h2; cases h2
  own := fun _ h => by cases h
  os := b.os
  tape := b.tape
  out := b.output
  fzk := fun _ _ h => h
  fzn := fun _ _ h => .inl h

theorem HRel.below {ρ : Rho} {hp : Hp} {w w' : World} (h : HRel ρ hp w) (b : Below w.heap.size w w') : HRel ρ hp w' where
  ok := fun nm x hx => by
    obtain ⟨bb, c, o, h1, h2, h3⟩ := h.ok nm x hx
    exact ⟨bb, c, o, h1, (b.block bb (Array.getElem?_eq_some_iff.1 h2).1).trans h2, h3⟩
  inj := h.inj
  fz := h.fz.of (fun _ _ h => h) (fun bb l hb => b.block bb (h.fz bb l hb).1.lt) fun nm x bb c hx hw he => .inl ⟨nm, x, c, hx, hw, he⟩

/-- what a contract of the kit says (nothing that lay has turned) is what a summary says that leaves all -/
theorem CallInfo.quiet {f : FuncId} {args : List RV} {s : S} {v : RV} (ht : Top s) (hfn : ∃ fn, P.funcs[f]? = some fn ∧ fn.body.isNone = false)
    (h : ∀ (ρ : Rho) (w : World) (vs : List Value), HRel ρ s.hp.get w → ArgsR ρ args vs → Calls P f vs.toArray w fun e w' => ∃ V, e = .returned V ∧ RVR ρ v V ∧ Below w.heap.size w w') :
    CallInfo P f args s v s [] where
  fn := hfn
  sl := rfl
  abs := Abs.refl ht
  run := fun ρ w vs hr hf ha => (h ρ w vs hr ha).mono fun e w' ⟨V, h1, h2, h3⟩ => ⟨V, ρ, h1, h2, hr.below h3, hf, Below.stp hf h3⟩

theorem HRel.nil (w : World) : HRel rhoN (T.nil : T Blk).get w where
  ok := fun nm x hx => by rw [T.get_nil] at hx; cases hx
  inj := fun nm nm' x y b c c' hx => by rw [T.get_nil] at hx; cases hx
  fz := fun b l h => by cases h

/-- a closed run from nothing, as a contract at every world -/
theorem runB_calls {Sg : FuncId → Option Sum} {z : Bool} (F : Fit P Sg) {fuel : Nat} {g : FuncId} {args : List RV} {v : RV}
    (h : runB P Sg z fuel g args s0 (fun v _ => some v) = some v) {vs : List Value} (ha : ArgsR rhoN args vs) (w : World) :
    Calls P g vs.toArray w fun e w' => ∃ V ρ, e = .returned V ∧ RVR ρ v V ∧ Below w.heap.size w w' := by
  obtain ⟨v', s', L, h1, ci⟩ := runB_info F (fun nm _ => T.get_nil nm) h
  cases h1
  refine (ci.run rhoN w vs (HRel.nil _) (fun _ _ => rfl) ha).mono fun e w' ⟨V, ρ', e1, e2, e3, e4, st⟩ => ⟨V, ρ', e1, e2, ?_⟩
  exact ⟨st.os, st.tape, st.out, st.size, fun k hk => st.frame k hk (fun nm c _ hlt => absurd hlt (Nat.not_lt_zero _))⟩

/-- .. and as a summary: it leaves all -/
theorem runB_quiet {Sg : FuncId → Option Sum} {z : Bool} (F : Fit P Sg) {fuel : Nat} {g : FuncId} {v : Cell}
    (hv : ∀ ρ ρ' V, CR ρ v V → CR ρ' v V)
    (h : runB P Sg z fuel g [] s0 (fun v _ => some v) = some (.one (.c v))) {s : S} (ht : Top s) : CallInfo P g [] s (.one (.c v)) s [] := by
  refine CallInfo.quiet ht ?_ fun ρ w vs hr ha => ?_
  · obtain ⟨v', s', L, h1, ci⟩ := runB_info F (fun nm _ => T.get_nil nm) h
    exact ci.fn
  · cases ha
    exact (runB_calls F h (vs := []) rfl w).mono fun e w' ⟨V, ρ', e1, e2, e3⟩ => ⟨V, e1, hv ρ' ρ V e2, e3⟩
end Go.Sx
