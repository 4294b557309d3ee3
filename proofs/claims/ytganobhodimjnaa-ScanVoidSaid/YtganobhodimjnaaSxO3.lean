/-
  A part of the executor Sx over the model's code (any program): its words, or its proof; no seat's statement stands here.
-/
import Derived.Test.YtganobhodimjnaaSxO2
namespace Go.Sx
variable {P : Program} {ρ : Rho} {w : World}

/-! ## Cells of a block -/
theorem add_off (b off n : Nat) : (⟨b, off, none⟩ : Addr).add n = ⟨b, off + n, none⟩ := by unfold Addr.add; split <;> simp_all

theorem run_loadRow {b off : Nat} {arr : Array Value} {t : TypeId} {fr : Nat × Nat} (h : w.heap[b]? = some (.cells arr t fr)) (n : Nat) (hl : off + n ≤ arr.size) :
    (loadCells ⟨b, off, none⟩ n).run P w = .ok ((arr.toList.drop off).take n).toArray w := by
  have := run_loadCells_list (P := P) w ⟨b, off, none⟩ ((arr.toList.drop off).take n) (fun j v hj => by
    rw [add_off]
    have hjn : j < n := by
      rcases Nat.lt_or_ge j n with h' | h'
      · exact h'
      · rw [List.getElem?_eq_none (by simp; omega)] at hj; cases hj
    rw [List.getElem?_take_of_lt hjn, List.getElem?_drop] at hj
    simpa [World.cell?, h] using hj)
  have e : ((arr.toList.drop off).take n).length = n := by simp; omega
  rw [e] at this
  exact this

theorem run_load1 {b off : Nat} {arr : Array Value} {t : TypeId} {fr : Nat × Nat} {v : Value} (h : w.heap[b]? = some (.cells arr t fr)) (hv : arr.toList[off]? = some v) :
    (load ⟨b, off, none⟩).run P w = .ok v w := by
  have hc : w.cell? ⟨b, off, none⟩ = some v := by simpa [World.cell?, h] using hv
  simp [run_load, hc]

theorem tk_ok {t : TypeId} {k : TK} (h : tk P t = some k) : ∃ d i, P.underlying t = some d ∧ P.info? t = some i ∧
    (match k with | .sc => aggD d = false | .ints _ n => aggD d = true ∧ i.size = n | .agg n => aggD d = true ∧ i.size = n) := by
  unfold tk at h
  split at h
  · rename_i fs i h1 h2
    simp only [Option.some.injEq] at h; subst h
    exact ⟨_, i, h1, h2, rfl, rfl⟩
  · rename_i n e i h1 h2
    split at h <;> simp only [Option.some.injEq] at h <;> subst h <;> exact ⟨_, i, h1, h2, rfl, rfl⟩
  · rename_i d i hn1 hn2 h1 h2
    simp only [Option.some.injEq] at h; subst h
    refine ⟨_, i, h1, h2, ?_⟩
    cases d <;> simp_all [aggD]
  · cases h

theorem BodyR.length {b : Body} {vs : List Value} (h : BodyR ρ b vs) : vs.length = b.size := by
  cases b with
  | cells l => exact CsR.length h
  | ints k l n => obtain ⟨h1, rfl⟩ := h; simp [Body.size, h1]

theorem Body.get_ok {b : Body} {off : Nat} {k : TK} {v : AV} (h : b.get off k = some v) {vs : List Value} (hb : BodyR ρ b vs) :
    match k with
    | .sc => ∃ V, vs[off]? = some V ∧ AVR ρ v V
    | .ints _ n | .agg n => off + n ≤ vs.length ∧ AVR ρ v (.agg ((vs.drop off).take n).toArray) := by
  have hl := hb.length
  cases b with
  | ints k' l n =>
    obtain ⟨h1, rfl⟩ := hb
    cases k with
    | sc =>
      simp only [Body.get] at h
      split at h
      · rename_i hlt
        simp only [Option.some.injEq] at h; subst h
        refine ⟨_, ?_, rfl⟩
        have : off < l.length := by omega
        simp [List.getElem?_eq_getElem this, List.getD]
      · cases h
    | ints k2 m =>
      simp only [Body.get] at h
      split at h
      · rename_i hc
        simp only [Option.some.injEq] at h; subst h
        refine ⟨by simp; omega, by simp; omega, ?_⟩
        simp [List.map_take, List.map_drop]
      · cases h
    | agg m => simp [Body.get] at h
  | cells l =>
    cases k with
    | sc =>
      simp only [Body.get] at h
      split at h
      · rename_i c hc
        simp only [Option.some.injEq] at h; subst h
        obtain ⟨V, h1, h2⟩ := CsR.get hb hc
        exact ⟨V, h1, h2⟩
      · cases h
    | agg m =>
      simp only [Body.get] at h
      split at h
      · rename_i hc
        simp only [Option.some.injEq] at h; subst h
        refine ⟨by simp [Body.size] at hl; omega, _, (CsR.drop hb off).take m, rfl⟩
      · cases h
    | ints k m =>
      simp only [Body.get] at h
      split at h
      · rename_i hc
        split at h
        · rename_i r hr
          simp only [Option.some.injEq] at h; subst h
          obtain ⟨e1, e2⟩ := toInts_ok hr ((CsR.drop hb off).take m)
          refine ⟨by simp [Body.size] at hl; omega, by simp at e2; omega, by rw [e1]⟩
        · cases h
      · cases h

theorem run_loadVar' {b off : Nat} {arr : Array Value} {t' t : TypeId} {fr : Nat × Nat} (h : w.heap[b]? = some (.cells arr t' fr)) {k : TK} (hk : tk P t = some k)
    {bd : Body} {v : AV} (hg : bd.get off k = some v) {vs tail : List Value} (ha : arr = (vs ++ tail).toArray) (hb : BodyR ρ bd vs) :
    ∃ V, AVR ρ v V ∧ (loadVar t ⟨b, off, none⟩).run P w = .ok V w := by
  obtain ⟨d, i, h1, h2, h3⟩ := tk_ok hk
  have g := Body.get_ok hg hb
  subst ha
  unfold loadVar
  simp only [Sem.run_bind, run_isAgg' h1, Result.andThen_ok]
  cases k with
  | sc =>
    obtain ⟨V, g1, g2⟩ := g
    have hlt : off < vs.length := by
      rcases Nat.lt_or_ge off vs.length with h' | h'
      · exact h'
      · rw [List.getElem?_eq_none h'] at g1; cases g1
    refine ⟨V, g2, ?_⟩
    simp only at h3
    simp only [h3, Bool.false_eq_true, if_false]
    exact run_load1 h (by simp [List.getElem?_append_left hlt, g1])
  | ints k n =>
    obtain ⟨g1, g2⟩ := g
    obtain ⟨h3, h4⟩ := h3
    refine ⟨_, g2, ?_⟩
    simp only [h3, if_true, Sem.run_bind, run_sz h2, Result.andThen_ok, h4]
    rw [run_loadRow h n (by simp; omega)]
    simp only [Result.andThen_ok, Sem.run_pure]
    rw [List.drop_append_of_le_length (by omega), List.take_append_of_le_length (by simp; omega)]
  | agg n =>
    obtain ⟨g1, g2⟩ := g
    obtain ⟨h3, h4⟩ := h3
    refine ⟨_, g2, ?_⟩
    simp only [h3, if_true, Sem.run_bind, run_sz h2, Result.andThen_ok, h4]
    rw [run_loadRow h n (by simp; omega)]
    simp only [Result.andThen_ok, Sem.run_pure]
    rw [List.drop_append_of_le_length (by omega), List.take_append_of_le_length (by simp; omega)]

/-! ## Cells of a value -/
theorem AVR.cells {v : AV} {V : Value} (h : AVR ρ v V) : BodyR ρ v.body V.cells.toList ∧ CsR ρ v.cellList V.cells.toList ∧ V.cells.size = v.size := by
  cases v with
  | c x =>
    have e := CR.cells (ρ := ρ) h
    rw [e]
    refine ⟨?_, ⟨V, [], h, rfl, rfl⟩, rfl⟩
    cases x <;> first
      | exact ⟨V, [], h, rfl, rfl⟩
      | (simp only [AVR, CR] at h; subst h; exact ⟨rfl, rfl⟩)
  | agg l =>
    obtain ⟨vs, h1, rfl⟩ := h
    exact ⟨h1, h1, by simp [Value.cells, AV.size, h1.length]⟩
  | ints k l n =>
    obtain ⟨h1, rfl⟩ := h
    exact ⟨⟨h1, rfl⟩, CsR.ints k l, by simp [Value.cells, AV.size, h1]⟩

theorem bodyFor_ok {t : TypeId} {v : AV} {V : Value} (h : AVR ρ v V) : BodyR ρ (bodyFor P t v) V.cells.toList := by
  obtain ⟨h1, h2, _⟩ := h.cells
  unfold bodyFor
  split
  · exact h1
  · exact h2
  · exact h2
  · exact h2

theorem over_length {α : Type} (l : List α) (off : Nat) (x : List α) (h : off + x.length ≤ l.length) : (over l off x).length = l.length := by
  simp [over]; omega

theorem CsR.over {l x : List Cell} {vs us : List Value} (h : CsR ρ l vs) (g : CsR ρ x us) (off : Nat) : CsR ρ (over l off x) (Sx.over vs off us) := by
  unfold Sx.over
  rw [g.length]
  exact ((h.take off).append g).append (h.drop _)

theorem Body.set_ok {b b' : Body} {off : Nat} {v : AV} (h : b.set off v = some b') {vs : List Value} (hb : BodyR ρ b vs) {V : Value} (hv : AVR ρ v V) :
    off + V.cells.toList.length ≤ vs.length ∧ BodyR ρ b' (over vs off V.cells.toList) := by
  have hl := hb.length
  obtain ⟨c1, c2, c3⟩ := hv.cells
  have c3' : V.cells.toList.length = v.size := by simpa using c3
  cases b with
  | cells l =>
    simp only [Body.set] at h
    split at h
    · rename_i hc
      simp only [Option.some.injEq] at h; subst h
      exact ⟨by simp [Body.size] at hl; omega, CsR.over hb c2 off⟩
    · cases h
  | ints k l n =>
    obtain ⟨h1, rfl⟩ := hb
    cases v with
    | agg l' => simp [Body.set] at h
    | c x =>
      cases x <;> simp only [Body.set] at h <;> try (cases h; done)
      rename_i k' z
      split at h
      · rename_i hc
        obtain ⟨rfl, hc⟩ := hc
        simp only [Option.some.injEq] at h; subst h
        simp only [AVR, CR] at hv; subst hv
        refine ⟨by simp [Value.cells]; omega, by simp [h1], ?_⟩
        simp only [Value.cells, over, List.length_cons, List.length_nil]
        apply List.ext_getElem?
        intro i
        have hlt : off < l.length := by omega
        simp only [List.getElem?_map, List.getElem?_set, List.append_assoc, List.getElem?_append, List.length_take, List.length_map, Nat.min_eq_left (Nat.le_of_lt hlt), List.getElem?_take, List.getElem?_drop]
        by_cases h2 : i < off
        · have : off ≠ i := by omega
          simp [h2, this]
        · by_cases h3 : i = off
          · subst h3; simp [hlt]
          · have h4 : off ≠ i := by omega
            have h5 : ¬ i - off < 1 := by omega
            simp only [h2, h4, if_false, List.length_singleton, h5, Nat.zero_add]
            rw [show off + 1 + (i - off - 1) = i by omega]
      · cases h
    | ints k' x m =>
      simp only [Body.set] at h
      split at h
      · rename_i hc
        obtain ⟨rfl, hc⟩ := hc
        simp only [Option.some.injEq] at h; subst h
        obtain ⟨h2, rfl⟩ := hv
        refine ⟨by simp [Value.cells]; omega, ?_, ?_⟩
        · rw [over_length _ _ _ (by omega)]; exact h1
        · simp [Value.cells, over, List.map_append, List.map_take, List.map_drop]
      · cases h

/-! ## Stores -/
theorem setRow_WrW {b : Nat} {arr cs : Array Value} {t : TypeId} {fr : Nat × Nat} (h : w.heap[b]? = some (.cells arr t fr)) : WrW w b (.cells cs t fr) (w.setRow b cs) where
  size := by simp
  at_ := setRow_heap w b arr cs t fr h
  other := fun i hi => by simp [World.setRow, Array.getElem?_modify, Ne.symm hi]
  os := rfl
  tape := rfl
  out := rfl

/-- cells laid into a block of our own -/
theorem run_storeRow {b off : Nat} {vs tail : List Value} {t : TypeId} (h : w.heap[b]? = some (.cells (vs ++ tail).toArray t (0, 0))) (us : List Value) (hl : off + us.length ≤ vs.length) (h1 : ∀ v ∈ us, v.oneCell' = true) :
    ∃ w', (storeCells ⟨b, off, none⟩ us).run P w = .ok () w' ∧ WrW w b (.cells (over vs off us ++ tail).toArray t (0, 0)) w' := by
  refine ⟨_, run_storeCells_at P b off t us 0 _ w h (by simp; omega) h1, ?_⟩
  have e : (List.take (off + 0) (vs ++ tail).toArray.toList ++ us ++ List.drop (off + 0 + us.length) (vs ++ tail).toArray.toList) = over vs off us ++ tail := by
    simp only [Nat.add_zero, over]
    rw [List.take_append_of_le_length (by omega), List.drop_append_of_le_length (by omega)]
    simp
  rw [e]
  exact setRow_WrW h

end Go.Sx
