/-
  A part of the executor Sx over the model's code (any program): its words, or its proof; no seat's statement stands here.
-/
import Derived.Test.YtganobhodimjnaaSxO1
namespace Go.Sx
variable {P : Program} {ρ : Rho} {w : World}

/-! ## Binary operations -/
theorem run_eqGuard_other (op : BinOp) (t : TypeId) (x y : Operand) (a b : Value) (h : (∀ c, a ≠ .agg c) ∨ (∀ c, b ≠ .agg c)) (h2 : a ≠ .nilIface ∨ b ≠ .nilIface) : (eqGuard op t x y a b).run P w = .ok () w := by
  unfold eqGuard
  generalize (!(match op with | .eql | .neq => true | _ => false)) = c
  cases c
  · simp only [Bool.false_eq_true, if_false]
    split
    · exfalso; rcases h2 with h2 | h2 <;> exact h2 rfl
    · exfalso; rcases h with h | h <;> exact h _ rfl
    · rfl
  · rfl

theorem run_bits (op : BinOp) (k : IntKind) (a b n : Int) (h : bitsI op k a b = some n) : (Op.intBits op k a b).run P w = .ok (.int k n) w := by
  cases op <;> simp only [bitsI, Option.some.injEq] at h <;> first | cases h; done | (subst h; rfl)

theorem run_binInt (op : BinOp) (t : TypeId) (k : IntKind) (a b : Int) (c : Cell) (hs : isShift op = false) (h : binInt op k a b = some c) : ∃ V, CR ρ c V ∧ (binOp op t (.int k a) (.int k b)).run P w = .ok V w := by
  cases op <;> simp only [isShift, reduceCtorEq] at hs <;> simp only [binInt, Option.some.injEq] at h
  case add => subst h; exact ⟨_, rfl, by simp [binOp, Op.intArith]⟩
  case sub => subst h; exact ⟨_, rfl, by simp [binOp, Op.intArith]⟩
  case mul => subst h; exact ⟨_, rfl, by simp [binOp, Op.intArith]⟩
  case quo =>
    split at h
    · cases h
    · rename_i h0
      simp only [Option.some.injEq] at h; subst h; exact ⟨_, rfl, by simp [binOp, Op.intDiv, h0]⟩
  case rem =>
    split at h
    · cases h
    · rename_i h0
      simp only [Option.some.injEq] at h; subst h; exact ⟨_, rfl, by simp [binOp, Op.intDiv, h0]⟩
  case eql => subst h; exact ⟨_, rfl, by simp [binOp, Op.intCmp]⟩
  case neq => subst h; exact ⟨_, rfl, by simp [binOp, Op.intCmp]⟩
  case lss => subst h; exact ⟨_, rfl, by simp [binOp, Op.intCmp]⟩
  case leq => subst h; exact ⟨_, rfl, by simp [binOp, Op.intCmp]⟩
  case gtr => subst h; exact ⟨_, rfl, by simp [binOp, Op.intCmp]⟩
  case geq => subst h; exact ⟨_, rfl, by simp [binOp, Op.intCmp]⟩
  all_goals
    split at h
    · rename_i n hn
      simp only [Option.some.injEq] at h; subst h
      exact ⟨_, rfl, by simp only [binOp, ne_eq, not_true_eq_false, if_false]; exact run_bits _ _ _ _ _ hn⟩
    · cases h

theorem run_intRes (op : BinOp) (t : TypeId) (k k' : IntKind) (a b : Int) (v : AV) (h : intRes op k a k' b = some v) : ∃ V, AVR ρ v V ∧ (binOp op t (.int k a) (.int k' b)).run P w = .ok V w := by
  unfold intRes at h
  split at h
  · rename_i hs
    cases op <;> simp only [isShift, reduceCtorEq] at hs <;> simp only [shiftRes] at h
    · split at h
      · cases h
      · rename_i h0
        simp only [Option.some.injEq] at h; subst h
        exact ⟨_, rfl, by simp [binOp, Op.shift, h0]⟩
    · split at h
      · cases h
      · rename_i h0
        simp only [Option.some.injEq] at h; subst h
        exact ⟨_, rfl, by simp [binOp, Op.shift, h0]⟩
  · rename_i hs
    split at h
    · rename_i hk
      subst hk
      split at h
      · rename_i c hc
        simp only [Option.some.injEq] at h; subst h
        obtain ⟨V, h1, h2⟩ := run_binInt (ρ := ρ) (P := P) (w := w) op t k a b c hs hc
        exact ⟨V, h1, h2⟩
      · cases h
    · cases h

theorem cellOf_ok {v : Value} {c : Cell} (h : cellOf v = some c) : CR ρ c v := by
  cases v <;> simp only [cellOf] at h <;> try (cases h; done)
  all_goals first
    | (simp only [Option.some.injEq] at h; subst h; rfl)
    | (split at h <;> first | (simp only [Option.some.injEq] at h; subst h; rename_i h1; simp_all [CR]; done) | (cases h; done) | skip)
  all_goals simp_all [CR]

theorem pureCell_ok {s : Sem Value} {c : Cell} (h : pureCell s = some c) : ∃ V, CR ρ c V ∧ s.run P w = .ok V w := by
  cases s <;> simp only [pureCell] at h <;> try (cases h; done)
  exact ⟨_, cellOf_ok h, rfl⟩

theorem run_eqC (t : TypeId) (x y : Cell) (r : Bool) (h : eqC P t x y = some r) {V U : Value} (hx : CR ρ x V) (hy : CR ρ y U) (D : Nat) :
    (Op.equalIn (D + 1) t V U).run P w = .ok r w ∧ (∀ k n, V ≠ .int k n) ∧ (∀ c, V ≠ .agg c) ∧ (∀ k n, V ≠ .float k n) ∧ (∀ k n m, V ≠ .complex k n m) ∧ (∀ s, V ≠ .string s) ∧ V ≠ .nilIface := by
  unfold eqC at h
  split at h <;> try (cases h; done)
  all_goals
    rename_i hu
    simp only [Option.some.injEq] at h
    subst h
    simp only [CR] at hx hy
  · subst hx hy; exact ⟨run_equalIn_bool' w D t _ _ hu, by simp⟩
  · subst hx hy; simp [Op.equalIn, run_underlying hu]
  · obtain ⟨_, _, _, rfl⟩ := hy; subst hx; simp [Op.equalIn, run_underlying hu]
  · obtain ⟨_, _, _, rfl⟩ := hx; subst hy; simp [Op.equalIn, run_underlying hu]
  · subst hx hy; simp [Op.equalIn, run_underlying hu]
  · obtain ⟨_, _, _, rfl⟩ := hx; subst hy; simp [Op.equalIn, run_underlying hu]
  · obtain ⟨_, _, _, _, rfl⟩ := hx; subst hy; simp [Op.equalIn, run_underlying hu]
  · obtain ⟨_, _, _, rfl⟩ := hy; subst hx; simp [Op.equalIn, run_underlying hu]
  · obtain ⟨_, _, _, _, rfl⟩ := hy; subst hx; simp [Op.equalIn, run_underlying hu]
  · subst hx hy; simp [Op.equalIn, run_underlying hu]
  · obtain ⟨_, _, _, rfl⟩ := hx; subst hy; simp [Op.equalIn, run_underlying hu]
  · obtain ⟨_, _, _, rfl⟩ := hy; subst hx; simp [Op.equalIn, run_underlying hu]
  · subst hx hy; simp [Op.equalIn, run_underlying hu]
  · obtain ⟨_, _, rfl⟩ := hx; subst hy; simp [Op.equalIn, run_underlying hu]
  · obtain ⟨_, _, rfl⟩ := hy; subst hx; simp [Op.equalIn, run_underlying hu]

theorem binOp_eq (t : TypeId) (V U : Value) (h1 : ∀ k n, V ≠ .int k n) (h3 : ∀ k n, V ≠ .float k n) (h4 : ∀ k n m, V ≠ .complex k n m) (h5 : ∀ s, V ≠ .string s) :
    (binOp .eql t V U) = (do pure (.bool (← Op.equal t V U))) ∧ (binOp .neq t V U) = (do pure (.bool (!(← Op.equal t V U)))) := by
  cases V <;> first
    | exact absurd rfl (h1 _ _)
    | exact absurd rfl (h3 _ _)
    | exact absurd rfl (h4 _ _ _)
    | exact absurd rfl (h5 _)
    | exact ⟨rfl, rfl⟩

theorem run_eqTop (t : TypeId) (x y : AV) (r : Bool) (h : eqTop P t x y = some r) {V U : Value} (hx : AVR ρ x V) (hy : AVR ρ y U) (op : BinOp) (ox oy : Operand) :
    (Op.equal t V U).run P w = .ok r w ∧ (eqGuard op t ox oy V U).run P w = .ok () w ∧ (∀ k n, V ≠ .int k n) ∧ (∀ k n, V ≠ .float k n) ∧ (∀ k n m, V ≠ .complex k n m) ∧ (∀ s, V ≠ .string s) := by
  unfold eqTop at h
  split at h
  · rename_i a b
    obtain ⟨q, h1, h2, h3, h4, h5, h6⟩ := run_eqC (w := w) t a b r h hx hy 9999
    exact ⟨q, run_eqGuard_other op t ox oy V U (.inl h2) (.inl h6), h1, h3, h4, h5⟩
  · rename_i l m
    split at h
    · rename_i hg
      obtain ⟨hg, hag⟩ := hg
      obtain ⟨vs, h1, rfl⟩ := hx
      obtain ⟨us, h2, rfl⟩ := hy
      obtain ⟨⟨dd, hdd⟩, hk⟩ := eqT_ok (w := w) (ρ := ρ) 5 t l m r h
      obtain ⟨q1, q2⟩ := hk 9994 dd hdd vs us h1 h2
      refine ⟨?_, run_eqGuard_agg w op t ox oy _ _ hg, by simp, by simp, by simp, by simp⟩
      have : aggD dd = true := by simpa [aggT, hdd] using hag
      simp only [asVal, this, if_true] at q2
      exact q2
    · cases h
  · rename_i k l n k' m n'
    split at h
    · rename_i hc
      obtain ⟨rfl, rfl, hc, hg⟩ := hc
      simp only [Option.some.injEq] at h
      subst h
      obtain ⟨h1, rfl⟩ := hx
      obtain ⟨h2, rfl⟩ := hy
      refine ⟨?_, run_eqGuard_agg w op t ox oy _ _ hg, by simp, by simp, by simp, by simp⟩
      unfold eqInts at hc
      split at hc
      · rename_i len e hu
        split at hc
        · rename_i k' i hd hi
          simp only [Bool.and_eq_true, beq_iff_eq] at hc
          have hr := ints_row (k := k) (d := .int k') ⟨_, rfl⟩ l m (h1.trans h2.symm)
          have q := eqRow_ok (P := P) (ρ := ρ) hd hi hc.1 rfl 9998 w _ _ 0 hr (CsR.ints k l) (CsR.ints k m)
          show (Op.equalIn 10000 t _ _).run P w = _
          rw [run_equalIn_array w 9999 _ _ hu hi, List.range_eq_range', hc.2, ← h1]
          simpa using q
        · cases hc
      · cases hc
    · cases h
  · cases h

theorem run_binRes (op : BinOp) (t : TypeId) (x y : AV) (v : AV) (h : binRes P op t x y = some v) {X Y : Value} (hx : AVR ρ x X) (hy : AVR ρ y Y) (ox oy : Operand) :
    ∃ V, AVR ρ v V ∧ (do eqGuard op t ox oy X Y; binOp op t X Y : Sem Value).run P w = .ok V w := by
  unfold binRes at h
  split at h
  · rename_i k a k' b
    simp only [AVR, CR] at hx hy
    subst hx hy
    obtain ⟨V, h1, h2⟩ := run_intRes (ρ := ρ) (P := P) (w := w) op t k k' a b v h
    exact ⟨V, h1, by simp [run_eqGuard_other, h2]⟩
  · rename_i a b
    simp only [AVR, CR] at hx hy
    subst hx hy
    split at h
    · rename_i c hc
      simp only [Option.some.injEq] at h; subst h
      obtain ⟨V, h1, h2⟩ := pureCell_ok (ρ := ρ) (P := P) (w := w) hc
      refine ⟨V, h1, ?_⟩
      have : binOp op t (.string a) (.string b) = Op.stringOp op a b := by cases op <;> rfl
      simp [run_eqGuard_other, this, h2]
    · cases h
  · unfold eqRes at h
    split at h
    · split at h
      · rename_i b hb
        simp only [Option.some.injEq] at h; subst h
        obtain ⟨q, g, h1, h2, h3, h4⟩ := run_eqTop (w := w) t x y b hb hx hy .eql ox oy
        exact ⟨_, rfl, by simp [g, (binOp_eq t X Y h1 h2 h3 h4).1, q]⟩
      · cases h
    · split at h
      · rename_i b hb
        simp only [Option.some.injEq] at h; subst h
        obtain ⟨q, g, h1, h2, h3, h4⟩ := run_eqTop (w := w) t x y b hb hx hy .neq ox oy
        exact ⟨_, rfl, by simp [g, (binOp_eq t X Y h1 h2 h3 h4).2, q]⟩
      · cases h
    · cases h

theorem run_unRes (op : UnOp) (x : RV) (v : AV) (h : unRes op x = some v) {X : Value} (hx : RVR ρ x X) : ∃ V, AVR ρ v V ∧ (Op.unary op X).run P w = .ok V w := by
  unfold unRes at h
  split at h
  · simp only [RVR, AVR, CR] at hx; subst hx
    simp only [Option.some.injEq] at h; subst h
    exact ⟨_, rfl, by simp [Op.unary, Op.intArith]⟩
  · simp only [RVR, AVR, CR] at hx; subst hx
    split at h
    · rename_i m hm
      simp only [Option.some.injEq] at h; subst h
      exact ⟨_, rfl, by simp only [Op.unary]; exact run_bits _ _ _ _ _ hm⟩
    · cases h
  · simp only [RVR, AVR, CR] at hx; subst hx
    simp only [Option.some.injEq] at h; subst h
    exact ⟨_, rfl, by simp [Op.unary]⟩
  · cases h

end Go.Sx
