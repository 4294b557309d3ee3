/-
  A part of the executor Sx over the model's code (any program): its words, or its proof; no seat's statement stands here.
-/
import Derived.Test.YtganobhodimjnaaSxI
namespace Go.Sx
variable {P : Program}

section
variable {n : Nat} {ops : Array Oper} {St : Nat → S} {nd : Nat → Need} (H : DR P n ops St nd)
include H

/-- one more done -/
theorem DR.step {ρ0 ρ : Rho} {w0 w : World} {D D' : Nat → Bool} {Hh : Hp} {a : Act} (I : Inv ops n St ρ0 w0 D ρ Hh a w) {i : Nat} {o : Oper} (N : Next ops D i o) (hD : ∀ j, D' j = if j = i then true else D j)
    {next : Act → World → Prop} {Q : Exit → Act → World → Prop} (hn : ∀ V w' ρ' Hh', Inv ops n St ρ0 w0 D' ρ' Hh' (a.put o.dst V) w' → next (a.put o.dst V) w') :
    if Region.wanted o (yielded ops a.tmps) then o.wp P a w next Q else next (a.put o.dst undef) w := by
  have hi : i < ops.size := lt_of_get N.at_
  have loc := H.loc i o N.at_
  have nxle : (St i).nx ≤ (St (i + 1)).nx := loc.abs.le
  have nx0 : (St 0).nx ≤ (St i).nx := H.le (by omega) (by omega)
  let A : Nat → Prop := fun nm => nm < (St i).nx ∧ (match nd i with | some l => nm ∈ l | none => True)
  let h : Hp := fun nm => if nm < (St i).nx then (match nd i with | some l => if nm ∈ l then Hh nm else none | none => Hh nm) else none
  have hA : ∀ nm x, h nm = some x → A nm ∧ Hh nm = some x := by
    intro nm x hx
    simp only [h] at hx
    split at hx
    · rename_i hlt
      cases hnd : nd i with
      | none => rw [hnd] at hx; exact ⟨⟨hlt, by rw [hnd]; trivial⟩, hx⟩
      | some l =>
        rw [hnd] at hx
        simp only at hx
        split at hx
        · rename_i hm; exact ⟨⟨hlt, by rw [hnd]; exact hm⟩, hx⟩
        · cases hx
    · cases hx
  have hAt : ∀ nm, A nm → h nm = Hh nm := by
    intro nm ⟨h1, h2⟩
    simp only [h, if_pos h1]
    cases hnd : nd i with
    | none => rfl
    | some l => rw [hnd] at h2; simp only [if_pos h2]
  have hrel : HRel (rst ρ (St i).nx) h w := by
    constructor
    · intro nm x hx
      obtain ⟨hA1, hx1⟩ := hA nm x hx
      obtain ⟨b, c, o', g1, g2, g3⟩ := (H.heap_at I N hA1.1 hA1.2).2 x hx1
      exact ⟨b, c, o', by unfold rst; rw [if_pos hA1.1]; exact g1, g2, g3⟩
    · intro nm nm' x y b c c' hx hy hw h1 h2
      exact I.inj nm nm' x y b c c' (hA _ _ hx).2 (hA _ _ hy).2 hw (rst_sub _ _ h1) (rst_sub _ _ h2)
  have hfr : Fresh (rst ρ (St i).nx) (St i).nx := by
    intro nm hnm
    unfold rst
    rw [if_neg (by omega)]
  have hneed : NeedR (nd i) { St i with lg := [] } h := by
    unfold NeedR
    cases hnd : nd i with
    | none =>
      intro nm x hx
      have hlt : nm < (St i).nx := by
        rcases Nat.lt_or_ge nm (St i).nx with h' | h'
        · exact h'
        · have := H.tops (show i ≤ ops.size by omega) nm h'
          have hx : (St i).hp.get nm = some x := hx
          rw [this] at hx; cases hx
      have hAn : A nm := ⟨hlt, by rw [hnd]; trivial⟩
      rw [hAt nm hAn, (H.heap_at I N hAn.1 hAn.2).1]
      exact hx
    | some l =>
      intro nm hm
      show h nm = (St i).hp.get nm
      by_cases hlt : nm < (St i).nx
      · have hAn : A nm := ⟨hlt, by rw [hnd]; exact hm⟩
        rw [hAt nm hAn, (H.heap_at I N hAn.1 hAn.2).1]
      · rw [H.tops (show i ≤ ops.size by omega) nm (by omega)]
        simp only [h, if_neg hlt]
  refine loc.run (rst ρ (St i).nx) w a h I.sz (fun t ht => ?_) hrel hfr hneed next Q fun V w' ρ' h' hv hr' hf' st hh => ?_
  · refine H.slot_at I N ?_
    simp only [looks, List.mem_append] at ht ⊢
    rcases ht with ht | ht
    · exact .inl (.inr ht)
    · exact .inr ht
  -- the new names
  let ρ'' : Rho := fun nm => if (St i).nx ≤ nm ∧ nm < (St (i + 1)).nx then ρ' nm else ρ nm
  have hold : ∀ nm b, (St i).nx ≤ nm → nm < (St (i + 1)).nx → ρ nm ≠ some b := by
    intro nm b h1 h2 hb
    rcases I.dom nm b hb with h3 | ⟨j, d1, d2, d3⟩
    · omega
    · have hj := I.inside j d1
      rcases Nat.lt_trichotomy j i with h4 | h4 | h4
      · have := H.le (show j + 1 ≤ i by omega) (by omega); omega
      · subst h4; rw [N.not] at d1; cases d1
      · have := H.le (show i + 1 ≤ j by omega) (by omega); omega
  have hsub : Sub ρ ρ'' := by
    intro nm b hb
    show (if _ then _ else _) = _
    rw [if_neg fun hc => hold nm b hc.1 hc.2 hb]
    exact hb
  have hρ'1 : ∀ nm, nm < (St i).nx → ρ' nm = ρ nm := fun nm hlt => by
    rw [st.rho nm hlt]
    unfold rst
    rw [if_pos hlt]
  have hρ' : Sub ρ' (rst ρ'' (St (i + 1)).nx) := by
    intro nm b hb
    have hlt : nm < (St (i + 1)).nx := by
      rcases Nat.lt_or_ge nm (St (i + 1)).nx with h1 | h1
      · exact h1
      · rw [hf' nm h1] at hb; cases hb
    unfold rst
    rw [if_pos hlt]
    show (if _ then _ else _) = _
    by_cases hc : (St i).nx ≤ nm
    · rw [if_pos ⟨hc, hlt⟩]; exact hb
    · rw [if_neg fun h => hc h.1, ← hρ'1 nm (by omega)]; exact hb
  let T : Nat → Prop := Turns St i
  have hT : ∀ nm, T nm → h' nm = (St (i + 1)).hp.get nm := fun nm ht => by
    rcases ht with ht | ht
    · exact hh nm (.inl ht)
    · exact hh nm (.inr ht.1)
  have hTlt : ∀ nm, T nm → nm < (St (i + 1)).nx := fun nm ht => by
    rcases ht with ht | ht
    · exact loc.abs.lt nm ht
    · exact ht.2
  have hTval : ∀ nm, T nm → ρ'' nm = ρ' nm := by
    intro nm ht
    show (if _ then _ else _) = _
    by_cases hc : (St i).nx ≤ nm
    · rw [if_pos ⟨hc, hTlt nm ht⟩]
    · rw [if_neg fun h => hc h.1, hρ'1 nm (by omega)]
  -- a block of our own turn is nobody else's
  have hown : ∀ nm, nm ∈ (St (i + 1)).lg → nm < (St i).nx → ∃ x, Hh nm = some x ∧ x.wr = true := by
    intro nm h1 h2
    obtain ⟨x, g1, g2⟩ := st.own nm h1 h2
    exact ⟨x, (hA nm x g1).2, g2⟩
  have noW : ∀ nm b c x, ¬ T nm → Hh nm = some x → ρ nm = some (b, c) → ∀ nm0 c0, nm0 ∈ (St (i + 1)).lg → nm0 < (St i).nx → rst ρ (St i).nx nm0 ≠ some (b, c0) := by
    intro nm b c x h1 h2 h3 nm0 c0 h4 h5 h6
    obtain ⟨x0, g1, g2⟩ := hown nm0 h4 h5
    have := I.inj nm0 nm x0 x b c0 c g1 h2 g2 (rst_sub _ _ h6) h3
    subst this
    exact h1 (.inl h4)
  have keepB : ∀ nm b c x, ¬ T nm → Hh nm = some x → ρ nm = some (b, c) → b < w.heap.size → w'.heap[b]? = w.heap[b]? := by
    intro nm b c x h1 h2 h3 h4
    exact st.frame b h4 fun nm0 c0 m1 m2 => noW nm b c x h1 h2 h3 nm0 c0 m1 m2
  have blk : ∀ nm x, Hh nm = some x → ∃ b c o, ρ nm = some (b, c) ∧ w.heap[b]? = some o := by
    intro nm x hx
    obtain ⟨m, _, _, _, _, m5⟩ := I.heap nm
    obtain ⟨b, c, o', g1, g2, _⟩ := m5 x hx
    exact ⟨b, c, o', g1, g2⟩
  have mixed : ∀ p q x y b c c', T p → ¬ T q → h' p = some x → Hh q = some y → ρ'' p = some (b, c) → ρ'' q = some (b, c') → False := by
    intro p q x y b c c' hp hq hx hy h1 h2
    obtain ⟨b', c'', o', g1, g2⟩ := blk q y hy
    have e := hsub _ _ g1
    rw [e] at h2
    simp only [Option.some.injEq, Prod.mk.injEq] at h2
    obtain ⟨rfl, rfl⟩ := h2
    rw [hTval p hp] at h1
    by_cases hlt : p < (St i).nx
    · have hpL : p ∈ (St (i + 1)).lg := by
        rcases hp with hp | hp
        · exact hp
        · omega
      rw [st.rho p hlt] at h1
      exact noW q b' c'' y hq hy g1 p c hpL hlt h1
    · rcases st.new p b' c (by show (St i).nx ≤ p; omega) h1 with h3 | ⟨nm0, c0, m1, m2, m3⟩
      · have := lt_of_get g2; omega
      · exact noW q b' c'' y hq hy g1 nm0 c0 m1 m2 m3
  classical
  let Hh' : Hp := fun nm => if T nm then h' nm else Hh nm
  refine hn V w' ρ'' Hh' ⟨?_, ?_, by rw [put_size]; exact I.sz, by rw [put_defers]; exact I.df, ?_, ?_, ?_, ?_, ?_, Nat.le_trans I.size st.size, ?_, ?_, ?_, by rw [st.os, I.os], by rw [st.tape, I.tape], by rw [st.out, I.out]⟩
  · -- closed
    intro j oj hj ho e he hb
    rw [hD] at hj ⊢
    by_cases e1 : j = i
    · subst e1
      rw [N.at_] at ho
      simp only [Option.some.injEq] at ho
      subst ho
      split
      · rfl
      · exact N.ready e he hb
    · rw [if_neg e1] at hj
      split
      · rfl
      · exact I.closed j oj hj ho e he hb
  · intro j hj
    rw [hD] at hj
    split at hj
    · rename_i e; subst e; exact hi
    · exact I.inside j hj
  · -- slots
    intro t
    by_cases hd : o.dst = some t
    · refine ⟨i + 1, by omega, ?_, ?_, .inr ⟨i, rfl, by rw [hD, if_pos rfl], o, N.at_, hd⟩⟩
      · rw [put_getD, if_pos ⟨hd, by rw [I.sz]; exact loc.dst t hd⟩]
        exact (hv t hd).mono hρ'
      · intro j hj ⟨oj, d2, d3⟩
        rw [hD] at hj
        by_cases e1 : j = i
        · omega
        · rw [if_neg e1] at hj
          rcases Nat.lt_or_ge j (i + 1) with h4 | h4
          · exact h4
          · exfalso
            have p := H.later I N hj d2 (by omega)
            refine p.a1 t hd ?_
            simp [looks, d3]
    · obtain ⟨m, m1, m2, m3, m4⟩ := I.slots t
      refine ⟨m, m1, ?_, ?_, ?_⟩
      · rw [put_getD, if_neg fun h => hd h.1]
        exact m2.mono (rst_mono hsub (Nat.le_refl _))
      · intro j hj hw
        rw [hD] at hj
        by_cases e1 : j = i
        · subst e1
          obtain ⟨oj, d2, d3⟩ := hw
          rw [N.at_] at d2
          simp only [Option.some.injEq] at d2
          subst d2
          exact absurd d3 hd
        · rw [if_neg e1] at hj
          exact m3 j hj hw
      · rcases m4 with h1 | ⟨m', h1, h2, h3⟩
        · exact .inl h1
        · exact .inr ⟨m', h1, by rw [hD]; split <;> first | rfl | exact h2, h3⟩
  · -- heap
    intro nm
    by_cases hc : T nm
    · refine ⟨i + 1, by omega, ?_, ?_, .inr ⟨i, rfl, by rw [hD, if_pos rfl], hc⟩, ?_⟩
      · show (if T nm then h' nm else Hh nm) = _
        rw [if_pos hc, hT nm hc]
      · intro j hj ht
        rw [hD] at hj
        by_cases e1 : j = i
        · omega
        · rw [if_neg e1] at hj
          rcases Nat.lt_or_ge j (i + 1) with h4 | h4
          · exact h4
          · exfalso
            have hjs := I.inside j hj
            have p := H.later I N hj (Array.getElem?_eq_getElem hjs) (by omega)
            have hle := H.le (show i + 1 ≤ j by omega) (by omega)
            have hlt := hTlt nm hc
            rcases ht with ht | ht
            · rcases hc with hc | hc
              · exact p.w1 nm hc ht
              · exact p.w2 nm ht hc
            · omega
      · intro x hx
        have hx : h' nm = some x := by
          have : (if T nm then h' nm else Hh nm) = some x := hx
          rwa [if_pos hc] at this
        obtain ⟨b, c, o', g1, g2, g3⟩ := hr'.ok nm x hx
        exact ⟨b, c, o', by rw [hTval nm hc]; exact g1, g2, g3.mono hρ'⟩
    · obtain ⟨m, m1, m2, m3, m4, m5⟩ := I.heap nm
      refine ⟨m, m1, ?_, ?_, ?_, ?_⟩
      · show (if T nm then h' nm else Hh nm) = _
        rw [if_neg hc, m2]
      · intro j hj ht
        rw [hD] at hj
        by_cases e1 : j = i
        · subst e1; exact absurd ht hc
        · rw [if_neg e1] at hj
          exact m3 j hj ht
      · rcases m4 with h1 | ⟨m', h1, h2, h3⟩
        · exact .inl h1
        · exact .inr ⟨m', h1, by rw [hD]; split <;> first | rfl | exact h2, h3⟩
      · intro x hx
        have hx : Hh nm = some x := by
          have : (if T nm then h' nm else Hh nm) = some x := hx
          rwa [if_neg hc] at this
        obtain ⟨b, c, o', g1, g2, g3⟩ := m5 x hx
        exact ⟨b, c, o', hsub _ _ g1, by rw [keepB nm b c x hc hx g1 (lt_of_get g2)]; exact g2, g3.mono (rst_mono hsub (Nat.le_refl _))⟩
  · -- inj
    intro p q x y b c c' hx hy hw h1 h2
    have hx : (if T p then h' p else Hh p) = some x := hx
    have hy : (if T q then h' q else Hh q) = some y := hy
    by_cases hp : T p <;> by_cases hq : T q
    · rw [if_pos hp] at hx
      rw [if_pos hq] at hy
      rw [hTval p hp] at h1
      rw [hTval q hq] at h2
      exact hr'.inj p q x y b c c' hx hy hw h1 h2
    · rw [if_pos hp] at hx
      rw [if_neg hq] at hy
      exact (mixed p q x y b c c' hp hq hx hy h1 h2).elim
    · rw [if_neg hp] at hx
      rw [if_pos hq] at hy
      exact (mixed q p y x b c' c hq hp hy hx h2 h1).elim
    · rw [if_neg hp] at hx
      rw [if_neg hq] at hy
      obtain ⟨b1, c1, o1, g1, _⟩ := blk p x hx
      obtain ⟨b2, c2, o2, g2, _⟩ := blk q y hy
      rw [hsub _ _ g1] at h1
      rw [hsub _ _ g2] at h2
      rw [h1] at g1
      rw [h2] at g2
      exact I.inj p q x y b c c' hx hy hw g1 g2
  · -- dom
    intro nm b hb
    have hb : (if (St i).nx ≤ nm ∧ nm < (St (i + 1)).nx then ρ' nm else ρ nm) = some b := hb
    split at hb
    · rename_i hc
      exact .inr ⟨i, by rw [hD, if_pos rfl], hc⟩
    · rcases I.dom nm b hb with h1 | ⟨j, d1, d2⟩
      · exact .inl h1
      · exact .inr ⟨j, by rw [hD]; split <;> first | rfl | exact d1, d2⟩
  · -- rho0
    intro nm hlt
    show (if _ then _ else _) = _
    rw [if_neg (by omega)]
    exact I.rho0 nm hlt
  · -- frame
    intro b hb hL
    have e1 := I.frame b hb fun j nm c hj => hL j nm c (by rw [hD]; split <;> first | rfl | exact hj)
    rw [← e1]
    refine st.frame b (Nat.lt_of_lt_of_le hb I.size) fun nm c h1 h2 h3 => ?_
    have h3 := rst_sub _ _ h3
    by_cases hlt : nm < (St 0).nx
    · rw [I.rho0 nm hlt] at h3
      exact hL i nm c (by rw [hD, if_pos rfl]) h1 hlt h3
    · rcases I.new nm b c (by omega) h3 with h4 | ⟨j, nm0, c0, d1, d2, d3, d4⟩
      · omega
      · exact hL j nm0 c0 (by rw [hD]; split <;> first | rfl | exact d1) d2 d3 d4
  · -- new
    intro nm b c hle hb
    have lift : (w0.heap.size ≤ b ∨ ∃ j nm0 c0, D j = true ∧ nm0 ∈ (St (j + 1)).lg ∧ nm0 < (St 0).nx ∧ ρ0 nm0 = some (b, c0)) → (w0.heap.size ≤ b ∨ ∃ j nm0 c0, D' j = true ∧ nm0 ∈ (St (j + 1)).lg ∧ nm0 < (St 0).nx ∧ ρ0 nm0 = some (b, c0)) := by
      rintro (h1 | ⟨j, nm0, c0, d1, d2⟩)
      · exact .inl h1
      · exact .inr ⟨j, nm0, c0, by rw [hD]; split <;> first | rfl | exact d1, d2⟩
    have hb : (if (St i).nx ≤ nm ∧ nm < (St (i + 1)).nx then ρ' nm else ρ nm) = some (b, c) := hb
    split at hb
    · rename_i hc
      rcases st.new nm b c hc.1 hb with h1 | ⟨nm0, c0, m1, m2, m3⟩
      · exact .inl (Nat.le_trans I.size h1)
      · have m3 := rst_sub _ _ m3
        by_cases hlt : nm0 < (St 0).nx
        · rw [I.rho0 nm0 hlt] at m3
          exact .inr ⟨i, nm0, c0, by rw [hD, if_pos rfl], m1, hlt, m3⟩
        · exact lift (I.new nm0 b c0 (by omega) m3)
    · exact lift (I.new nm b c hle hb)
  · -- own
    intro j nm hj hm hlt
    rw [hD] at hj
    by_cases e1 : j = i
    · subst e1
      obtain ⟨x, g1, g2⟩ := hown nm hm (by omega)
      obtain ⟨m, m1, m2, m3, m4, m5⟩ := I.heap nm
      rcases m4 with rfl | ⟨m', rfl, d1, d2⟩
      · rw [m2] at g1; exact ⟨x, g1, g2⟩
      · rcases d2 with d2 | d2
        · exact I.own m' nm d1 d2 hlt
        · have hm' := I.inside m' d1
          have := H.le (show 0 ≤ m' by omega) (by omega)
          omega
    · rw [if_neg e1] at hj
      exact I.own j nm hj hm hlt

end
end Go.Sx
