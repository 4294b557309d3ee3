/-
  A part of the executor Sx over the model's code (any program): its words, or its proof; no seat's statement stands here.
-/
import Derived.Test.YtganobhodimjnaaSxC
import Derived.Laws.StructEq
import Derived.ChangeKeysEq
namespace Go.Sx
variable {P : Program}

/-! ## Small runs -/
theorem run_tInfo {t : TypeId} {i : TypeInfo} (h : P.info? t = some i) (w : World) : (typeInfo t).run P w = .ok i w := by
  simp [typeInfo, h]
theorem run_sz {t : TypeId} {i : TypeInfo} (h : P.info? t = some i) (w : World) : (sizeOf t).run P w = .ok i.size w := by
  simp [sizeOf, run_tInfo h]

theorem run_isAgg' {t : TypeId} {d : TypeDesc} (h : P.underlying t = some d) (w : World) : (isAgg t).run P w = .ok (aggD d) w := by
  unfold isAgg
  simp only [Sem.run_bind, run_underlying h, Result.andThen_ok]
  cases d <;> rfl

def asVal (d : TypeDesc) (vs : List Value) : Value := if aggD d then .agg vs.toArray else vs.headD undef

theorem run_part' {t : TypeId} {d : TypeDesc} {i : TypeInfo} (h : P.underlying t = some d) (hi : P.info? t = some i) (vs : List Value) (off : Nat)
    (hl : off + i.size ≤ vs.length) (h1 : aggD d = false → 0 < i.size) (w : World) :
    (part t vs.toArray off).run P w = .ok (asVal d ((vs.drop off).take i.size)) w := by
  unfold part asVal
  simp only [Sem.run_bind, run_isAgg' h, Result.andThen_ok]
  cases hd : aggD d
  · have := h1 hd
    have hlt : off < vs.length := by omega
    simp only [Bool.false_eq_true, if_false]
    simp only [List.getElem?_toArray, List.getElem?_eq_getElem hlt, Sem.run_pure]
    congr 1
    have e : (vs.drop off).take i.size = vs[off] :: ((vs.drop (off + 1)).take (i.size - 1)) := by
      rw [List.drop_eq_getElem_cons hlt]
      obtain ⟨m, hm⟩ : ∃ m, i.size = m + 1 := ⟨i.size - 1, by omega⟩
      rw [hm, List.take_succ_cons]; rfl
    rw [e]; rfl
  · simp [run_sz hi, List.extract_toArray, List.extract_eq_take_drop]

/-! ## Values -/
theorem CsR.length {ρ : Rho} : ∀ {l : List Cell} {vs : List Value}, CsR ρ l vs → vs.length = l.length
  | [], _, h => by simp only [CsR] at h; subst h; rfl
  | _ :: _, _, ⟨_, _, _, h2, h3⟩ => by subst h3; simp [CsR.length h2]

theorem CsR.get {ρ : Rho} : ∀ {l : List Cell} {vs : List Value}, CsR ρ l vs → ∀ {i : Nat} {c : Cell}, l[i]? = some c → ∃ v, vs[i]? = some v ∧ CR ρ c v
  | [], _, _, _, _, hc => by simp at hc
  | _ :: _, _, ⟨v, vs', h1, h2, h3⟩, i, c, hc => by
    subst h3
    cases i with
    | zero => simp at hc; subst hc; exact ⟨v, rfl, h1⟩
    | succ i => simp at hc; obtain ⟨u, hu, hr⟩ := h2.get hc; exact ⟨u, by simpa using hu, hr⟩

theorem CsR.drop {ρ : Rho} : ∀ {l : List Cell} {vs : List Value}, CsR ρ l vs → ∀ n, CsR ρ (l.drop n) (vs.drop n)
  | [], _, h, n => by simp only [CsR] at h; subst h; simp [CsR]
  | _ :: _, _, ⟨v, vs', h1, h2, h3⟩, n => by
    subst h3
    cases n with
    | zero => exact ⟨v, vs', h1, h2, rfl⟩
    | succ n => exact h2.drop n

theorem CsR.take {ρ : Rho} : ∀ {l : List Cell} {vs : List Value}, CsR ρ l vs → ∀ n, CsR ρ (l.take n) (vs.take n)
  | [], _, h, n => by simp only [CsR] at h; subst h; simp [CsR]
  | _ :: _, _, ⟨v, vs', h1, h2, h3⟩, n => by
    subst h3
    cases n with
    | zero => simp [CsR]
    | succ n => exact ⟨v, _, h1, h2.take n, rfl⟩

theorem CsR.append {ρ : Rho} : ∀ {l m : List Cell} {vs us : List Value}, CsR ρ l vs → CsR ρ m us → CsR ρ (l ++ m) (vs ++ us)
  | [], _, _, _, h, g => by simp only [CsR] at h; subst h; simpa using g
  | _ :: _, _, _, _, ⟨v, vs', h1, h2, h3⟩, g => by subst h3; exact ⟨v, _, h1, h2.append g, rfl⟩

theorem CsR.ints {ρ : Rho} (k : IntKind) : ∀ l : List Int, CsR ρ (l.map (Cell.int k)) (l.map (Value.int k))
  | [] => rfl
  | _ :: l => ⟨_, _, rfl, CsR.ints k l, rfl⟩

theorem toInts_ok {ρ : Rho} {k : IntKind} : ∀ {l : List Cell} {r : List Int} {vs : List Value}, toInts k l = some r → CsR ρ l vs → vs = r.map (Value.int k) ∧ r.length = l.length
  | [], r, vs, h, hr => by simp [toInts] at h; subst h; simp only [CsR] at hr; subst hr; exact ⟨rfl, rfl⟩
  | c :: l, r, vs, h, ⟨v, vs', h1, h2, h3⟩ => by
    subst h3
    cases c <;> simp only [toInts] at h <;> try cases h
    split at h
    · rename_i k' n hk
      subst hk
      split at h
      · rename_i r' hr'
        simp only [Option.some.injEq] at h
        subst h
        obtain ⟨e1, e2⟩ := toInts_ok hr' h2
        simp only [CR] at h1
        subst h1
        exact ⟨by simp [e1], by simp [e2]⟩
      · cases h
    · cases h

theorem CR.one {ρ : Rho} {c : Cell} {v : Value} (h : CR ρ c v) : v.oneCell' = true := by
  cases c <;> simp only [CR] at h
  all_goals first
    | (subst h; rfl)
    | (obtain ⟨_, _, _, rfl⟩ := h; rfl)
    | (obtain ⟨_, _, _, _, rfl⟩ := h; rfl)
    | (obtain ⟨_, _, rfl⟩ := h; rfl)

theorem CR.cells {ρ : Rho} {c : Cell} {v : Value} (h : CR ρ c v) : v.cells = #[v] := by
  have := h.one
  cases v <;> simp_all [Value.oneCell', Value.cells]

theorem CsR.one {ρ : Rho} : ∀ {l : List Cell} {vs : List Value}, CsR ρ l vs → ∀ v ∈ vs, v.oneCell' = true
  | [], _, h, v, hv => by simp only [CsR] at h; subst h; cases hv
  | _ :: _, _, ⟨_, _, h1, h2, h3⟩, v, hv => by
    subst h3
    rcases List.mem_cons.1 hv with rfl | hv
    · exact h1.one
    · exact h2.one v hv

/-! ## Equality -/
theorem eqLeaf_ok {ρ : Rho} {t : TypeId} {d : TypeDesc} (hd : P.underlying t = some d) {xs ys : List Cell} {r : Bool} (h : eqLeaf (some d) xs ys = some r)
    {vs us : List Value} (hx : CsR ρ xs vs) (hy : CsR ρ ys us) (D : Nat) (w : World) :
    xs.length = 1 ∧ ys.length = 1 ∧ aggD d = false ∧ (Op.equalIn (D + 1) t (asVal d vs) (asVal d us)).run P w = .ok r w := by
  unfold eqLeaf at h
  split at h <;> try cases h
  · rename_i k0 k a k' b hd'
    simp only [Option.some.injEq] at hd'
    subst hd'
    split at h <;> try cases h
    rename_i hk; subst hk
    obtain ⟨v, vs', h1, h2, h3⟩ := hx
    obtain ⟨u, us', g1, g2, g3⟩ := hy
    simp only [CR] at h1 g1
    subst h3 g3 h1 g1
    exact ⟨rfl, rfl, rfl, run_equalIn_int w D t _ _ _ _ hd⟩
  · rename_i a b hd'
    simp only [Option.some.injEq] at hd'
    subst hd'
    obtain ⟨v, vs', h1, h2, h3⟩ := hx
    obtain ⟨u, us', g1, g2, g3⟩ := hy
    simp only [CR] at h1 g1
    subst h3 g3 h1 g1
    exact ⟨rfl, rfl, rfl, run_equalIn_bool' w D t _ _ hd⟩
  · rename_i a b hd'
    simp only [Option.some.injEq] at hd'
    subst hd'
    obtain ⟨v, vs', h1, h2, h3⟩ := hx
    obtain ⟨u, us', g1, g2, g3⟩ := hy
    simp only [CR] at h1 g1
    subst h3 g3 h1 g1
    refine ⟨rfl, rfl, rfl, ?_⟩
    have := run_equalIn_string w D t a b hd
    rw [← beq_toListBytes] at this
    exact this

theorem under_info {t : TypeId} {d : TypeDesc} (h : P.underlying t = some d) : ∃ i, P.info? t = some i := by
  unfold Program.underlying at h
  split at h
  · exact ⟨_, by assumption⟩
  · exact ⟨_, by assumption⟩
  · cases h

theorem headD_drop {vs : List Value} {i : Nat} (h : i < vs.length) : (vs.drop i).headD undef = vs[i] := by
  rw [List.drop_eq_getElem_cons h]; rfl

theorem eqRow_ok {ρ : Rho} {e : TypeId} {d : TypeDesc} {i : TypeInfo} (hd : P.underlying e = some d) (hi : P.info? e = some i) (h1 : i.size = 1) (hag : aggD d = false) (D : Nat) (w : World) (vs us : List Value) :
    ∀ {xs ys : List Cell} {r : Bool} (pre : Nat), eqRow (some d) xs ys = some r → CsR ρ xs (vs.drop pre) → CsR ρ ys (us.drop pre) →
      (Op.eqItems (D + 1) e (P.cellsOf e) vs.toArray us.toArray (List.range' pre xs.length)).run P w = .ok r w
  | [], [], r, pre, h, _, _ => by
    simp [eqRow] at h; subst h; simp [Op.eqItems]
  | x :: xs, y :: ys, r, pre, h, hx, hy => by
    have hc : P.cellsOf e = 1 := by simp [Program.cellsOf, hi, h1]
    simp only [eqRow] at h
    split at h
    · rename_i a b ha hb
      simp only [Option.some.injEq] at h
      subst h
      have lx := hx.length
      have ly := hy.length
      have hlx : pre < vs.length := by simp at lx; omega
      have hly : pre < us.length := by simp at ly; omega
      obtain ⟨v, vs', c1, c2, c3⟩ := hx
      obtain ⟨u, us', g1, g2, g3⟩ := hy
      have e1 := List.drop_eq_getElem_cons hlx
      have e2 := List.drop_eq_getElem_cons hly
      rw [c3] at e1
      rw [g3] at e2
      simp only [List.cons.injEq] at e1 e2
      obtain ⟨e1a, e1b⟩ := e1
      obtain ⟨e2a, e2b⟩ := e2
      rw [e1b] at c2
      rw [e2b] at g2
      have ih := eqRow_ok hd hi h1 hag D w vs us (pre + 1) hb c2 g2
      obtain ⟨_, _, _, q⟩ := eqLeaf_ok hd ha (vs := [v]) (us := [u]) ⟨v, [], c1, rfl, rfl⟩ ⟨u, [], g1, rfl, rfl⟩ D w
      have p1 := run_part' hd hi vs pre (by omega) (fun _ => by omega) w
      have p2 := run_part' hd hi us pre (by omega) (fun _ => by omega) w
      have f1 : asVal d ((vs.drop pre).take i.size) = v := by
        simp [asVal, hag, h1, c3]
      have f2 : asVal d ((us.drop pre).take i.size) = u := by
        simp [asVal, hag, h1, g3]
      rw [f1] at p1
      rw [f2] at p2
      have q' : (Op.equalIn (D + 1) e v u).run P w = .ok a w := by simpa [asVal, hag] using q
      rw [hc] at ih ⊢
      simp only [List.length_cons, List.range'_succ, Op.eqItems, Nat.mul_one, Sem.run_bind, p1, p2, q', Result.andThen_ok]
      cases a
      · simp
      · simpa using ih
    · cases h
  | [], _ :: _, _, _, h, _, _ => by simp [eqRow] at h
  | _ :: _, [], _, _, h, _, _ => by simp [eqRow] at h

theorem leafArr_ok {e : TypeId} (h : leafArr P e = true) : ∃ d i, P.underlying e = some d ∧ P.info? e = some i ∧ i.size = 1 ∧ aggD d = false := by
  unfold leafArr at h
  split at h
  · rename_i k i h1 h2; exact ⟨_, i, h1, h2, by simpa using h, rfl⟩
  · rename_i i h1 h2; exact ⟨_, i, h1, h2, by simpa using h, rfl⟩
  · rename_i i h1 h2; exact ⟨_, i, h1, h2, by simpa using h, rfl⟩
  · cases h

/-- the values of a type's cells, as '==' takes them -/
def EqOK (P : Program) (w : World) (ρ : Rho) (d : Nat) (t : TypeId) (xs ys : List Cell) (r : Bool) : Prop :=
  ∀ D dd, P.underlying t = some dd → ∀ vs us, CsR ρ xs vs → CsR ρ ys us → (aggD dd = false → xs.length = 1 ∧ ys.length = 1) ∧ (Op.equalIn (D + d) t (asVal dd vs) (asVal dd us)).run P w = .ok r w

theorem eqFs_ok {ρ : Rho} {w : World} {d : Nat} {eq : TypeId → List Cell → List Cell → Option Bool} (hq : ∀ t xs ys r, eq t xs ys = some r → (∃ dd, P.underlying t = some dd) ∧ EqOK P w ρ d t xs ys r)
    {xs ys : List Cell} {vs us : List Value} (hx : CsR ρ xs vs) (hy : CsR ρ ys us) (D : Nat) :
    ∀ {fs : List Field} {r : Bool}, eqFs P eq xs ys fs = some r → (Op.eqFields (D + d) vs.toArray us.toArray fs).run P w = .ok r w
  | [], r, h => by simp [eqFs] at h; subst h; simp [Op.eqFields]
  | f :: fs, r, h => by
    simp only [eqFs] at h
    split at h
    · rename_i hn
      have hn : f.name = "_" := by simpa using hn
      have ih := eqFs_ok hq hx hy D h
      simp only [Op.eqFields, hn, ne_eq, not_true_eq_false, if_false]
      exact ih
    · rename_i hn
      have hn : f.name ≠ "_" := by simpa using hn
      split at h
      · rename_i i hi
        split at h
        · rename_i hl
          split at h
          · rename_i a b ha hb
            simp only [Option.some.injEq] at h
            subst h
            obtain ⟨⟨dd, hdd⟩, hk⟩ := hq _ _ _ _ ha
            have ih := eqFs_ok hq hx hy D hb
            have lx := hx.length
            have ly := hy.length
            obtain ⟨h1, h2⟩ := hk D dd hdd _ _ ((hx.drop f.offset).take i.size) ((hy.drop f.offset).take i.size)
            have sz : aggD dd = false → 0 < i.size := fun hg => by
              have := (h1 hg).1
              simp [cutC] at this
              omega
            have p1 := run_part' hdd hi vs f.offset (by omega) sz w
            have p2 := run_part' hdd hi us f.offset (by omega) sz w
            simp only [Op.eqFields, ne_eq, hn, not_false_eq_true, if_true, Sem.run_bind, p1, p2, h2, Result.andThen_ok]
            cases a
            · simp
            · simpa using ih
          · cases h
        · cases h
      · cases h

theorem eqT_ok {ρ : Rho} {w : World} : ∀ (d : Nat) (t : TypeId) (xs ys : List Cell) (r : Bool), eqT P d t xs ys = some r → (∃ dd, P.underlying t = some dd) ∧ EqOK P w ρ (d + 1) t xs ys r
  | 0, _, _, _, _, h => by simp [eqT] at h
  | d + 1, t, xs, ys, r, h => by
    simp only [eqT] at h
    split at h
    · rename_i fs hu
      split at h
      · cases h
      · rename_i hs
        refine ⟨⟨_, hu⟩, fun D dd hdd vs us hx hy => ?_⟩
        rw [hu] at hdd
        simp only [Option.some.injEq] at hdd
        subst hdd
        refine ⟨fun hg => by simp [aggD] at hg, ?_⟩
        have hf : P.fieldsOf t = fs := by simp [Program.fieldsOf, hu]
        have := eqFs_ok (P := P) (w := w) (fun t xs ys r hh => eqT_ok d t xs ys r hh) hx hy D h
        have e := run_equalIn_struct w (D + (d + 1)) t vs.toArray us.toArray (by rw [hf]; exact hu) (by simpa using hs)
        rw [hf] at e
        simp only [asVal, aggD, if_true]
        rw [show D + (d + 1 + 1) = D + (d + 1) + 1 from rfl, e]
        exact this
    · rename_i len e hu
      split at h
      · rename_i hc
        obtain ⟨hl, hxl, hyl⟩ := hc
        obtain ⟨dd', i, q1, q2, q3, q4⟩ := leafArr_ok hl
        refine ⟨⟨_, hu⟩, fun D dd hdd vs us hx hy => ?_⟩
        rw [hu] at hdd
        simp only [Option.some.injEq] at hdd
        subst hdd
        refine ⟨fun hg => by simp [aggD] at hg, ?_⟩
        rw [q1] at h
        have := eqRow_ok q1 q2 q3 q4 (D + d) w vs us 0 h hx hy
        simp only [asVal, aggD, if_true]
        rw [show D + (d + 1 + 1) = D + (d + 1) + 1 from rfl, run_equalIn_array w (D + (d + 1)) vs.toArray us.toArray hu q2, List.range_eq_range', ← hxl]
        exact this
      · cases h
    · rename_i u hn1 hn2
      cases hu : P.underlying t with
      | none => rw [hu] at h; simp [eqLeaf] at h
      | some dd =>
        rw [hu] at h
        refine ⟨⟨_, rfl⟩, fun D dd' hdd vs us hx hy => ?_⟩
        rw [hu] at hdd
        simp only [Option.some.injEq] at hdd
        subst hdd
        obtain ⟨l1, l2, l3, q⟩ := eqLeaf_ok hu h hx hy (D + (d + 1)) w
        exact ⟨fun _ => ⟨l1, l2⟩, q⟩

theorem ints_row {k : IntKind} {d : TypeDesc} (hd : ∃ k', d = .int k') : ∀ (l m : List Int), l.length = m.length → eqRow (some d) (l.map (Cell.int k)) (m.map (Cell.int k)) = some (l == m)
  | [], [], _ => rfl
  | x :: l, y :: m, h => by
    obtain ⟨k', rfl⟩ := hd
    have ih := ints_row (k := k) ⟨k', rfl⟩ l m (by simpa using h)
    simp only [List.map_cons, eqRow, eqLeaf, if_true, ih]
    simp [List.cons_beq_cons]
  | [], _ :: _, h => by simp at h
  | _ :: _, [], h => by simp at h

end Go.Sx
