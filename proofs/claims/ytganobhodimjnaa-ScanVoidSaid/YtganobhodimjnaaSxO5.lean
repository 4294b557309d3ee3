/-
  A part of the executor Sx over the model's code (any program): its words, or its proof; no seat's statement stands here.
-/
import Derived.Test.YtganobhodimjnaaSxO4
namespace Go.Sx
variable {P : Program} {ρ : Rho} {w : World} {hp : Hp} {nx : Nat}

section ops
variable {ev : Ev} {va : Operand → Value} {r : Res} (hr : HRel ρ hp w) (hf : Fresh ρ nx)

def OptR (ρ : Rho) (v : Option RV) (X : Option Value) : Prop :=
  match v with
  | none => X = none
  | some v => ∃ V, X = some V ∧ RVR ρ v V

theorem sbound_ok {x : Option RV} {lo hi d n : Nat} (h : sbound x lo hi d = some n) {X : Option Value} (hx : OptR ρ x X) :
    (X = none ∧ n = d) ∨ ∃ k, X = some (.int k (n : Int)) ∧ n ≤ hi := by
  unfold sbound at h
  split at h
  · simp only [Option.some.injEq] at h
    exact .inl ⟨hx, h.symm⟩
  · split at h
    · split at h <;> try (cases h; done)
      rename_i hc
      simp only [Option.some.injEq] at h; subst h
      obtain ⟨V, h1, h2⟩ := hx
      simp only [RVR, AVR, CR] at h2
      subst h2
      exact .inr ⟨_, h1, hc.2⟩
    · cases h
  · cases h

theorem run_bound (k : IntKind) (n y : Nat) (code : BoundsCode) (h : n ≤ y) : (Instr.sliceBound (.int k (n : Int)) y code).run P w = .ok n w := by
  simp [Instr.sliceBound, asIntOf]
  intro h'; omega

theorem run_bounds (b : Bool) (len cap h l : Nat) {lo hi : Option RV} {L H : Option Value} (h1 : sbound hi 0 cap len = some h) (h2 : sbound lo 0 h 0 = some l)
    (hL : OptR ρ lo L) (hH : OptR ρ hi H) :
    (Instr.sliceBounds b len cap L H none).run P w = .ok (l, h, cap) w := by
  rcases sbound_ok h1 hH with ⟨rfl, rfl⟩ | ⟨k, rfl, h3⟩ <;> rcases sbound_ok h2 hL with ⟨rfl, rfl⟩ | ⟨k', rfl, h4⟩
  · simp [Instr.sliceBounds]
  · simp [Instr.sliceBounds, run_bound _ _ _ _ h4]
  · simp [Instr.sliceBounds, run_bound _ _ _ _ h3]
  · simp [Instr.sliceBounds, run_bound _ _ _ _ h3, run_bound _ _ _ _ h4]

theorem optEv_ok {x : Option Operand} {v : Option RV} (h : optEv ev x = some v) (hx : ∀ y, x = some y → EvR ρ ev va y) : OptR ρ v (x.map va) := by
  unfold optEv at h
  split at h
  · simp only [Option.some.injEq] at h; subst h; rfl
  · split at h <;> try (cases h; done)
    rename_i y v' hv
    simp only [Option.some.injEq] at h; subst h
    exact ⟨_, rfl, hx _ rfl _ hv⟩

theorem if_add (m l : Nat) (b off s : Nat) : (if m = l then (⟨b, off, none⟩ : Addr) else (⟨b, off, none⟩ : Addr).add (l * s)) = ⟨b, if m = l then off else off + l * s, none⟩ := by
  split <;> simp [add_off]

/-- what slicing gives -/
theorem sliceCell_sl {s nm off len cap : Nat} {c : Cell} {lo hi : Option RV} (h : sliceCell s (.sl nm off len cap) lo hi = some c) {L H : Option Value}
    (hL : OptR ρ lo L) (hH : OptR ρ hi H) (b : Bool) {bl cc : Nat} (e : ρ nm = some (bl, cc)) :
    ∃ l h, (Instr.sliceBounds b len cap L H none).run P w = .ok (l, h, cap) w ∧
      CR ρ c (.slice (some (if cap = l then ⟨bl, off, none⟩ else (⟨bl, off, none⟩ : Addr).add (l * s))) (h - l) (cap - l)) := by
  simp only [sliceCell] at h
  split at h <;> try (cases h; done)
  rename_i hh h1
  split at h <;> try (cases h; done)
  rename_i l h2
  simp only [Option.some.injEq] at h; subst h
  exact ⟨l, hh, run_bounds b len cap hh l h1 h2 hL hH, bl, cc, e, by rw [if_add]⟩

theorem sbound_mono {x : Option RV} {hi hi' d n : Nat} (h : sbound x 0 hi d = some n) (hle : hi ≤ hi') : sbound x 0 hi' d = some n := by
  unfold sbound at h ⊢
  split at h
  · exact h
  · split at h
    · split at h <;> try (cases h; done)
      rename_i hc
      rw [if_pos ⟨hc.1, by omega⟩]; exact h
    · cases h
  · cases h

include hr hf

theorem slSl_ok {t e : TypeId} {x : Cell} {X : Value} (ht : P.underlying t = some (.slice e)) (hx : CR ρ x X) {lo hi : Option RV} (h : slSl P e x lo hi = some r) {L H : Option Value}
    (hL : OptR ρ lo L) (hH : OptR ρ hi H) :
    SemR P ρ hp nx w (Instr.slice t X L H none) r := by
  unfold slSl at h
  split at h <;> try (cases h; done)
  rename_i ti hti
  obtain ⟨c, hc, hq⟩ := cOpt_ok h
  cases x with
  | sl nm off len cap =>
    obtain ⟨bl, cc, e1, rfl⟩ := hx
    obtain ⟨l, hh, p1, p2⟩ := sliceCell_sl (P := P) (w := w) hc hL hH true e1
    refine SemR.quiet hr hf hq ?_ p2
    simp [Instr.slice, run_underlying ht, p1, run_sz hti]
    split <;> rfl
  | slu nm sz a len =>
    obtain ⟨bl, cc, e1, e2, rfl⟩ := hx
    simp only [sliceCell] at hc
    split at hc <;> try (cases hc; done)
    rename_i hh h1
    split at hc <;> try (cases hc; done)
    rename_i l h2
    split at hc <;> try (cases hc; done)
    rename_i hcond
    obtain ⟨rfl, hl⟩ := hcond
    simp only [Option.some.injEq] at hc; subst hc
    have h1' := sbound_mono h1 (show len ≤ cc - a by omega)
    have p1 := run_bounds (P := P) (w := w) true len (cc - a) hh l h1' h2 hL hH
    have hlh : l ≤ hh ∧ hh ≤ len := by
      rcases sbound_ok h1 hH with ⟨_, rfl⟩ | ⟨_, _, h3⟩ <;> rcases sbound_ok h2 hL with ⟨_, rfl⟩ | ⟨_, _, h4⟩ <;> omega
    refine SemR.quiet hr hf hq (V := .slice (some ⟨bl, (a + l) * ti.size, none⟩) (hh - l) (cc - a - l)) ?_ ⟨bl, cc, e1, by omega, by rw [show cc - a - l = cc - (a + l) by omega]⟩
    simp only [Instr.slice, Sem.run_bind, run_underlying ht, Result.andThen_ok, p1, run_sz hti, Sem.run_pure]
    rcases hl with rfl | hl
    · simp [add_off]
    · have : ¬ cc - a = l := by omega
      simp [this, add_off, Nat.add_mul]
  | sl0 =>
    simp only [CR] at hx
    subst hx
    simp only [sliceCell] at hc
    split at hc <;> try (cases hc; done)
    rename_i hh h1
    split at hc <;> try (cases hc; done)
    rename_i l h2
    simp only [Option.some.injEq] at hc; subst hc
    have hh0 : hh = 0 := by rcases sbound_ok h1 hH with ⟨_, h⟩ | ⟨_, _, h⟩ <;> omega
    have hl0 : l = 0 := by rcases sbound_ok h2 hL with ⟨_, h⟩ | ⟨_, _, h⟩ <;> omega
    subst hh0 hl0
    have p1 := run_bounds (P := P) (w := w) true 0 0 0 0 h1 h2 hL hH
    refine SemR.quiet hr hf hq (V := .slice none 0 0) ?_ rfl
    simp [Instr.slice, run_underlying ht, p1, run_sz hti]
  | _ => simp [sliceCell] at hc

theorem stSlice_ok {t : TypeId} {x : Operand} {lo hi mx : Option Operand} (h : stSlice P ev t x lo hi mx = some r) (hx : EvR ρ ev va x) (hlo : ∀ y, lo = some y → EvR ρ ev va y) (hhi : ∀ y, hi = some y → EvR ρ ev va y) :
    SemR P ρ hp nx w (Instr.sliceAt t (va x) (lo.map va) (hi.map va) (mx.map va)) r := by
  unfold stSlice at h
  split at h <;> try (cases h; done)
  split at h <;> try (cases h; done)
  rename_i lo' hlo'
  split at h <;> try (cases h; done)
  rename_i hi' hhi'
  have hL := optEv_ok hlo' hlo
  have hH := optEv_ok hhi' hhi
  split at h <;> try (cases h; done)
  rename_i c hc
  have e : CR ρ c (va x) := hx _ hc
  have arr : ∀ n e nm off, slArr P n e nm off lo' hi' = some r → (∃ bl cc, ρ nm = some (bl, cc) ∧ va x = .pointer (some ⟨bl, off, none⟩)) →
      ∃ ti l h bl, P.info? e = some ti ∧ (Instr.sliceBounds false n n (lo.map va) (hi.map va) none).run P w = .ok (l, h, n) w ∧ va x = .pointer (some ⟨bl, off, none⟩) ∧
        SemR P ρ hp nx w (pure (.slice (some (if n = l then ⟨bl, off, none⟩ else (⟨bl, off, none⟩ : Addr).add (l * ti.size))) (h - l) (n - l))) r := by
    intro n e nm off h ⟨bl, cc, e1, e2⟩
    unfold slArr at h
    split at h <;> try (cases h; done)
    rename_i ti hti
    obtain ⟨c', hc', hq⟩ := cOpt_ok h
    obtain ⟨l, hh, p1, p2⟩ := sliceCell_sl (P := P) (w := w) hc' hL hH false e1
    exact ⟨ti, l, hh, bl, hti, p1, e2, SemR.quiet hr hf hq rfl p2⟩
  split at h
  · rename_i n e' hu
    split at h <;> try (cases h; done)
    rename_i nm off
    obtain ⟨ti, l, hh, bl, h1, h2, h3, V, w', ρ', h4, h5⟩ := arr _ _ _ _ h e
    refine ⟨V, w', ρ', ?_, h5⟩
    rw [← h4, h3]
    simp only [Instr.sliceAt, Sem.run_bind, run_underlying hu, Result.andThen_ok, Instr.sureAddr, Sem.run_pure, Option.map_none, h2, run_sz h1]
  · rename_i e' hu
    obtain ⟨V, w', ρ', h4, h5⟩ := slSl_ok (P := P) hr hf hu e h hL hH
    refine ⟨V, w', ρ', ?_, h5⟩
    rw [← h4]
    simp [Instr.sliceAt, run_underlying hu]
  · rename_i arr' hu
    split at h <;> try (cases h; done)
    rename_i nm off
    split at h <;> try (cases h; done)
    rename_i n e' hu'
    obtain ⟨ti, l, hh, bl, h1, h2, h3, V, w', ρ', h4, h5⟩ := arr _ _ _ _ h e
    refine ⟨V, w', ρ', ?_, h5⟩
    rw [← h4, h3]
    simp only [Instr.sliceAt, Instr.slice, Sem.run_bind, run_underlying hu, Result.andThen_ok, asAddr, Sem.run_pure, Option.map_none, run_underlying hu', h2, run_sz h1]
  · cases h

theorem stFieldAddr_ok {s : TypeId} {x : Operand} {f : Nat} (h : stFieldAddr P ev s x f = some r) (hx : EvR ρ ev va x) : SemR P ρ hp nx w (Instr.fieldAt s (va x) f) r := by
  unfold stFieldAddr at h
  split at h <;> try (cases h; done)
  rename_i nm off hv
  split at h <;> try (cases h; done)
  rename_i fs hu
  split at h <;> try (cases h; done)
  rename_i fd hfd
  split at h <;> try (cases h; done)
  rename_i ti hti
  split at h <;> try (cases h; done)
  rename_i hsz
  obtain ⟨bl, cc, e1, e2⟩ := hx _ hv
  refine SemR.quiet hr hf h (V := .pointer (some ⟨bl, off + fd.offset, none⟩)) ?_ ⟨bl, cc, e1, rfl⟩
  simp [Instr.fieldAt, run_underlying hu, hfd, Instr.sureAddr, e2, fieldPlace, run_sz hti, hsz, add_off]

omit hr hf in
theorem idx_ok {i : Int} {len j : Nat} (h : idx i len = some j) : i = (j : Int) ∧ j < len := by
  unfold idx at h
  split at h
  · split at h <;> try (cases h; done)
    rename_i hc
    simp only [Option.some.injEq] at h; subst h
    exact ⟨rfl, hc⟩
  · cases h

theorem stIndexAddr_ok {t : TypeId} {x i : Operand} (h : stIndexAddr P ev t x i = some r) (hx : EvR ρ ev va x) (hi : EvR ρ ev va i) : SemR P ρ hp nx w (Instr.indexAt t (va x) (va i)) r := by
  unfold stIndexAddr at h
  split at h <;> try (cases h; done)
  rename_i k z hz
  have ez := hi _ hz
  simp only [RVR, AVR, CR] at ez
  split at h <;> try (cases h; done)
  rename_i c hc
  have e : CR ρ c (va x) := hx _ hc
  split at h
  · rename_i len e' hu
    split at h <;> try (cases h; done)
    unfold ixArr at h
    split at h <;> try (cases h; done)
    rename_i ti hti
    split at h <;> try (cases h; done)
    rename_i j hj
    obtain ⟨rfl, hlt⟩ := idx_ok hj
    obtain ⟨bl, cc, e1, e2⟩ := e
    refine SemR.quiet hr hf h (V := .pointer (some ⟨bl, _, none⟩)) ?_ ⟨bl, cc, e1, rfl⟩
    simp [Instr.indexAt, ez, asIntOf, run_underlying hu, e2, Instr.sureAddr, hlt, run_sz hti, add_off]
  · rename_i e' hu
    unfold ixSl at h
    split at h <;> try (cases h; done)
    rename_i ti hti
    split at h <;> try (cases h; done)
    rename_i nm off len hs
    split at h <;> try (cases h; done)
    rename_i j hj
    obtain ⟨rfl, hlt⟩ := idx_ok hj
    unfold sliceParts at hs
    split at hs <;> try (cases hs; done)
    · simp only [Option.some.injEq, Prod.mk.injEq] at hs
      obtain ⟨rfl, rfl, rfl⟩ := hs
      obtain ⟨bl, cc, e1, e2⟩ := e
      refine SemR.quiet hr hf h (V := .pointer (some ⟨bl, _, none⟩)) ?_ ⟨bl, cc, e1, rfl⟩
      simp [Instr.indexAt, ez, asIntOf, run_underlying hu, e2, hlt, run_sz hti, add_off]
    · split at hs <;> try (cases hs; done)
      rename_i hsz
      subst hsz
      simp only [Option.some.injEq, Prod.mk.injEq] at hs
      obtain ⟨rfl, rfl, rfl⟩ := hs
      obtain ⟨bl, cc, e1, _, e2⟩ := e
      refine SemR.quiet hr hf h (V := .pointer (some ⟨bl, _, none⟩)) ?_ ⟨bl, cc, e1, rfl⟩
      simp [Instr.indexAt, ez, asIntOf, run_underlying hu, e2, hlt, run_sz hti, add_off]
  · cases h

omit hr hf in
theorem rowBody_ok {v : AV} {V : Value} (h : AVR ρ v V) : BodyR ρ v.rowBody V.cells.toList := by
  obtain ⟨h1, h2, _⟩ := h.cells
  cases v with
  | c x => exact h2
  | agg l => exact h2
  | ints k l n => exact h1

omit hr hf in
/-- a part of a value -/
theorem run_partOf {t : TypeId} {k : TK} {b : Body} {off : Nat} {v : AV} (hk : tk P t = some k) (hg : b.get off k = some v) {cs : Array Value} (hb : BodyR ρ b cs.toList) : ∃ V, AVR ρ v V ∧ (part t cs off).run P w = .ok V w := by
  obtain ⟨d, i, h1, h2, h3⟩ := tk_ok hk
  have g := Body.get_ok hg hb
  unfold part
  simp only [Sem.run_bind, run_isAgg' h1, Result.andThen_ok]
  cases k with
  | sc =>
    obtain ⟨V, g1, g2⟩ := g
    refine ⟨V, g2, ?_⟩
    simp only at h3
    have g1' : cs[off]? = some V := by simpa using g1
    simp [h3, g1']
  | ints k n =>
    obtain ⟨g1, g2⟩ := g
    obtain ⟨h3, h4⟩ := h3
    refine ⟨_, g2, ?_⟩
    simp only [h3, if_true, Sem.run_bind, run_sz h2, Result.andThen_ok, h4, Sem.run_pure]
    congr 2
    rw [← Array.toArray_toList (xs := cs), List.extract_toArray, List.extract_eq_take_drop]
    simp
  | agg n =>
    obtain ⟨g1, g2⟩ := g
    obtain ⟨h3, h4⟩ := h3
    refine ⟨_, g2, ?_⟩
    simp only [h3, if_true, Sem.run_bind, run_sz h2, Result.andThen_ok, h4, Sem.run_pure]
    congr 2
    rw [← Array.toArray_toList (xs := cs), List.extract_toArray, List.extract_eq_take_drop]
    simp

omit hr hf in
theorem AVR.agg {v : AV} {V : Value} (h : AVR ρ v V) (hv : isAggV v = true) : ∃ cs, V = .agg cs ∧ V.cells = cs := by
  cases v with
  | c x => simp [isAggV] at hv
  | agg l => obtain ⟨vs, _, rfl⟩ := h; exact ⟨_, rfl, rfl⟩
  | ints k l n => obtain ⟨_, rfl⟩ := h; exact ⟨_, rfl, rfl⟩

end ops
end Go.Sx
