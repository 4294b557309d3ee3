/-
  A part of the executor Sx over the model's code (any program): its words, or its proof; no seat's statement stands here.
-/
import Derived.Test.YtganobhodimjnaaSxO6
import Derived.MapKept
import Derived.IntWalk
import Derived.Laws.Append
namespace Go.Sx
variable {P : Program} {ρ : Rho} {w : World} {hp : Hp} {nx : Nat}

/-! ## Rows of equal elements -/
theorem repl_length {α : Type} (l : List α) : ∀ n, (repl l n).length = n * l.length
  | 0 => by simp [repl]
  | n + 1 => by simp [repl, repl_length l n, Nat.add_mul]; omega

theorem CsR.repl {l : List Cell} {vs : List Value} (h : CsR ρ l vs) : ∀ n, CsR ρ (repl l n) (Sx.repl vs n)
  | 0 => rfl
  | n + 1 => h.append (h.repl n)

theorem repl_map {α β : Type} (f : α → β) (l : List α) : ∀ n, (repl l n).map f = repl (l.map f) n
  | 0 => rfl
  | n + 1 => by simp [repl, repl_map f l n]

theorem range_repl (zs : List Value) (s : Nat) (hs : zs.length = s) : ∀ n, (List.range (n * s)).map (fun i => zs.toArray[i % zs.toArray.size]!) = repl zs n
  | 0 => by simp [repl]
  | n + 1 => by
    have ih := range_repl zs s hs n
    rw [show (n + 1) * s = s + n * s by rw [Nat.add_mul]; omega, List.range_add, List.map_append, List.map_map]
    simp only [repl]
    congr 1
    · apply List.ext_getElem?
      intro i
      by_cases h : i < s
      · have : i % zs.length = i := Nat.mod_eq_of_lt (by omega)
        simp [h, this, List.getElem!_eq_getElem?_getD, List.getElem?_eq_getElem (show i < zs.length by omega)]
      · simp [h]; omega
    · rw [← ih]
      apply List.map_congr_left
      intro i _
      simp [hs, Nat.add_comm s i]

theorem rowsOf_ok {e : TypeId} {z : AV} {zv : Value} (hz : AVR ρ z zv) (n : Nat) : BodyR ρ (rowsOf P e z n) (repl zv.cells.toList n) := by
  obtain ⟨h1, h2, _⟩ := hz.cells
  unfold rowsOf
  split
  · unfold bodyRepl
    split
    · rename_i l hl
      rw [hl] at h1
      exact CsR.repl h1 n
    · rename_i k l m hl
      rw [hl] at h1
      obtain ⟨e1, e2⟩ := h1
      rw [e2, ← repl_map]
      exact ⟨by rw [repl_length, e1, Nat.mul_comm], rfl⟩
  · exact h2.repl n

theorem zeros_eq {zv : Value} {s : Nat} (hs : zv.cells.size = s) (n : Nat) :
    ((Array.range (n * s)).map (fun i => (if n * s = 0 then #[] else zv.cells)[i % (if n * s = 0 then #[] else zv.cells : Array Value).size]!)).toList = repl zv.cells.toList n := by
  by_cases h : n * s = 0
  · rw [h]
    have : (repl zv.cells.toList n).length = 0 := by rw [repl_length]; simp [hs, h]
    simp [List.length_eq_zero_iff.1 this]
  · simp only [h, if_false]
    have := range_repl zv.cells.toList s (by simpa using hs) n
    rw [← this]
    simp

section ops
variable {ev : Ev} {va : Operand → Value} {r : Res} (hr : HRel ρ hp w) (hf : Fresh ρ nx)
include hr hf

theorem stBuildSlice_ok {t : TypeId} {len : Nat} {ps : Array (Nat × Operand)} (h : stBuildSlice P ev nx t len ps = some r) (hx : ∀ x ∈ ps.toList, EvR ρ ev va x.2) :
    SemR P ρ hp nx w (Instr.buildSlice t len (ps.map fun (i, x) => (i, va x))) r := by
  unfold stBuildSlice at h
  split at h <;> try (cases h; done)
  rename_i e hu
  split at h <;> try (cases h; done)
  rename_i z hz
  split at h <;> try (cases h; done)
  rename_i ti hti
  split at h <;> try (cases h; done)
  rename_i l hl
  split at h <;> try (cases h; done)
  rename_i b hb
  split at h <;> try (cases h; done)
  rename_i hc
  obtain ⟨hc1, hc2⟩ := hc
  simp only [Option.some.injEq] at h; subst h
  obtain ⟨zv, z1, z2⟩ := zeroAV_ok (w := w) (ρ := ρ) hz
  obtain ⟨_, _, c3⟩ := z2.cells
  have hb0 : BodyR ρ (rowsOf P e z len) ((Array.range (len * ti.size)).map (fun i => (if len * ti.size = 0 then #[] else zv.cells)[i % (if len * ti.size = 0 then #[] else zv.cells : Array Value).size]!)).toList := by
    rw [zeros_eq (by omega)]; exact rowsOf_ok z2 len
  obtain ⟨cs', q1, q2, q3⟩ := evs_ok hl hx (fun i => some (i * ti.size, ti.size)) (fun i => some (i * ti.size, ti.size)) _ b _ (fun _ _ h => h) hb0 hb
  have hargs : (ps.map fun (i, x) => (i, va x)).toList = ps.toList.map fun x => (x.1, va x.2) := by simp
  obtain ⟨w', n1, n2⟩ := newRow_ok (P := P) hr hf (c := 0) (t := e) (cells := cs') (v := .one (.c (.sl nx 0 len len))) (V := .slice (some ⟨w.heap.size, 0, none⟩) len len) q2 ⟨w.heap.size, 0, by simp [ext], rfl⟩
  refine ⟨_, w', _, ?_, n2⟩
  simp only [Instr.buildSlice, Sem.run_bind, run_underlying hu, Result.andThen_ok, run_sz hti]
  rw [if_neg (by omega)]
  by_cases h0 : len * ti.size = 0
  · simp only [h0, if_true] at q1 ⊢
    simp only [Sem.run_bind, Sem.run_pure, Result.andThen_ok, hargs, q1, n1]
  · simp only [h0, if_false] at q1 ⊢
    simp only [Sem.run_bind, Sem.run_pure, Result.andThen_ok, z1, hargs, q1, n1]

omit hr hf in
theorem wrapN (n : Nat) (h : n < 1000000000) : IntKind.i64.wrap (n : Int) = (n : Int) := IntWalk.i64_in _ (by omega)

theorem stMakeSlice_ok {t : TypeId} {l c : Operand} (h : stMakeSlice P ev nx t l c = some r) (hl : EvR ρ ev va l) (hc : EvR ρ ev va c) : SemR P ρ hp nx w (Instr.makeSlice t (va l) (va c)) r := by
  unfold stMakeSlice at h
  split at h <;> try (cases h; done)
  rename_i e hu
  split at h <;> try (cases h; done)
  rename_i k1 n hn
  split at h <;> try (cases h; done)
  rename_i k2 m hm
  split at h <;> try (cases h; done)
  rename_i z hz
  split at h <;> try (cases h; done)
  rename_i ti hti
  split at h <;> try (cases h; done)
  rename_i hc'
  obtain ⟨rfl, hb, hn1, hsz⟩ := hc'
  simp only [Option.some.injEq] at h; subst h
  have e1 := hl _ hn
  have e2 := hc _ hm
  simp only [RVR, AVR, CR] at e1 e2
  obtain ⟨zv, z1, z2⟩ := zeroAV_ok (w := w) (ρ := ρ) hz
  obtain ⟨_, _, c3⟩ := z2.cells
  have hb0 : BodyR ρ (rowsOf P e z n) ((Array.range (n * ti.size)).map (fun i => (if n * ti.size = 0 then #[] else zv.cells)[i % (if n * ti.size = 0 then #[] else zv.cells : Array Value).size]!)).toList := by
    rw [zeros_eq (by omega)]; exact rowsOf_ok z2 n
  obtain ⟨w', n1, n2⟩ := newRow_ok (P := P) hr hf (c := 0) (t := e) (cells := (Array.range (n * ti.size)).map (fun i => (if n * ti.size = 0 then #[] else zv.cells)[i % (if n * ti.size = 0 then #[] else zv.cells : Array Value).size]!)) (v := .one (.c (.sl nx 0 n n))) (V := .slice (some ⟨w.heap.size, 0, none⟩) n n) hb0 ⟨w.heap.size, 0, by simp [ext], rfl⟩
  refine ⟨_, w', _, ?_, n2⟩
  have hw : IntKind.i64.wrap (Int.ofNat n) = (n : Int) := wrapN n hn1
  simp only [Instr.makeSlice, Sem.run_bind, run_underlying hu, Result.andThen_ok, e1, e2, asInt, asIntOf, Sem.run_pure, run_tInfo hti, hw]
  have h1 : ¬ ((n : Int) < 0) := by omega
  have h2 : ¬ ((ti.bytes : Int) * (n : Int) > 2 ^ 48) := by
    have : ((ti.bytes * n : Nat) : Int) ≤ (1000000000 : Nat) := Int.ofNat_le.2 hb
    rw [Int.natCast_mul] at this
    omega
  simp only [h1, h2, decide_false, Bool.or_self, Int.lt_irrefl, gt_iff_lt, Bool.false_eq_true, if_false, run_askRoom, Sem.run_bind, Result.andThen_ok, run_sz hti, Int.toNat_natCast]
  by_cases h0 : n * ti.size = 0
  · simp only [h0, if_true] at n1
    rw [if_pos h0]
    simp only [Sem.run_bind, Sem.run_pure, Result.andThen_ok, h0, n1]
  · simp only [h0, if_false] at n1
    rw [if_neg h0]
    simp only [Sem.run_bind, Sem.run_pure, Result.andThen_ok, z1, n1]

/-! ### maps -/
omit hr hf in
theorem run_getMap {b : Nat} {es : Array MapEntry} {cl : Nat} (h : w.heap[b]? = some (.map es cl)) : (getObj b).run P w = .ok (.map es cl) w := by
  simp [getObj, Sem.run, h]

omit hr hf in
theorem run_setMap {b : Nat} {o o' : Obj} (h : w.heap[b]? = some o) (ho : ∀ c t f, o ≠ .cells c t f) : ∃ w', (setObj b o').run P w = .ok () w' ∧ WrW w b o' w' := by
  refine ⟨{ w with heap := w.heap.setIfInBounds b o' }, ?_, by simp, ?_, ?_, rfl, rfl, rfl⟩
  · cases o <;> simp_all [setObj, Sem.run]
  · have := lt_of_get h
    simp [this]
  · intro i hi
    simp [Ne.symm hi]

omit hr hf in
theorem eqKey_ok {d : TypeDesc} {k c : Cell} {K C : Value} {b : Bool} (hd : keyOK (some d) k = true) (h : eqKey k c = some b) (hk : CR ρ k K) (hc : CR ρ c C) : Instr.sameNow d K C = some b := by
  unfold eqKey at h
  split at h <;> try (cases h; done)
  · split at h <;> try (cases h; done)
    rename_i hkk
    subst hkk
    simp only [Option.some.injEq] at h
    simp only [CR] at hk hc
    subst hk hc h
    cases d <;> simp [keyOK] at hd
    simp [Instr.sameNow]
  · simp only [Option.some.injEq] at h
    simp only [CR] at hk hc
    subst hk hc h
    cases d <;> simp [keyOK] at hd
    simp [Instr.sameNow]
  · simp only [Option.some.injEq] at h
    simp only [CR] at hk hc
    subst hk hc h
    cases d <;> simp [keyOK] at hd
    simp [Instr.sameNow]

omit hr hf in
theorem findKey_ok {d : TypeDesc} {k : Cell} {K : Value} (hd : keyOK (some d) k = true) (hk : CR ρ k K) : ∀ {es : List (Cell × AV)} {ents : List MapEntry} {i : Nat} {r : Option (Nat × AV)}, findKey k es i = some r → EsR ρ es ents →
    match r with
    | none => Instr.findNow d K ents i = some none
    | some (j, v) => ∃ V e, Instr.findNow d K ents i = some (some (j, V)) ∧ AVR ρ v V ∧ i ≤ j ∧ ents[j - i]? = some e ∧ ∃ c, es[j - i]? = some (c, v) ∧ eqKey k c = some true ∧ CR ρ c e.key
  | [], _, i, r, h, he => by
    simp only [EsR] at he; subst he
    simp [Sx.findKey] at h; subst h
    rfl
  | (c, v) :: es, _, i, r, h, ⟨e, es', h1, h2, h3, h4⟩ => by
    subst h4
    simp only [Sx.findKey] at h
    split at h <;> try (cases h; done)
    · rename_i heq
      simp only [Option.some.injEq] at h; subst h
      have := eqKey_ok hd heq hk h1
      exact ⟨e.val, e, by simp [Instr.findNow, this], h2, Nat.le_refl _, by simp, c, by simp, heq, h1⟩
    · rename_i heq
      have := eqKey_ok hd heq hk h1
      have ih := findKey_ok hd hk h h3
      cases r with
      | none => simpa [Instr.findNow, this] using ih
      | some x =>
        obtain ⟨j, v'⟩ := x
        obtain ⟨V, e', q1, q2, q3, q4, c', q5, q6⟩ := ih
        refine ⟨V, e', by simp [Instr.findNow, this, q1], q2, by omega, ?_, c', ?_, q6⟩
        · rw [show j - i = (j - (i + 1)) + 1 by omega]; simpa using q4
        · rw [show j - i = (j - (i + 1)) + 1 by omega]; simpa using q5

omit hr hf in
theorem run_checkKey {kt : TypeId} {d : TypeDesc} {k : Cell} {K : Value} (hu : P.underlying kt = some d) (hd : keyOK (some d) k = true) (hk : CR ρ k K) (e : Bool) : (Instr.checkKey e 10000 kt K).run P w = .ok () w := by
  suffices h : ∀ n, (Instr.checkKey e (n + 1) kt K).run P w = .ok () w from h 9999
  intro n
  cases k <;> simp [keyOK] at hd <;> cases d <;> simp at hd <;> simp only [CR] at hk <;> subst hk <;> simp [Instr.checkKey, run_underlying hu]

omit hr hf in
theorem run_findKey {kt : TypeId} {d : TypeDesc} {K : Value} {ents : List MapEntry} {x : Option (Nat × Value)} (hu : P.underlying kt = some d) (h : Instr.findNow d K ents 0 = some x) : (Instr.findKey kt K ents).run P w = .ok x w := by
  simp [Instr.findKey, run_underlying hu, h]

omit hr hf in
theorem keyOK_some {d : Option TypeDesc} {k : Cell} (h : keyOK d k = true) : ∃ d', d = some d' := by
  cases d with
  | none => simp [keyOK] at h
  | some d => exact ⟨d, rfl⟩

theorem stLookup_ok {t : TypeId} {m k : Operand} {ok : Bool} (h : stLookup P ev hp t m k ok = some r) (hm : EvR ρ ev va m) (hk : EvR ρ ev va k) : SemR P ρ hp nx w (Instr.lookup t (va m) (va k) ok) r := by
  unfold stLookup at h
  split at h <;> try (cases h; done)
  rename_i kt e hu
  split at h <;> try (cases h; done)
  rename_i mc hmc
  split at h <;> try (cases h; done)
  rename_i kc hkc
  split at h <;> try (cases h; done)
  rename_i z hz
  split at h <;> try (cases h; done)
  rename_i es nd hes
  split at h <;> try (cases h; done)
  rename_i hko
  have em : CR ρ mc (va m) := hm _ hmc
  have ek : CR ρ kc (va k) := hk _ hkc
  obtain ⟨d, hd⟩ := keyOK_some hko
  rw [hd] at hko
  obtain ⟨zv, z1, z2⟩ := zeroAV_ok (w := w) (ρ := ρ) hz
  have hent : ∃ ents : Array MapEntry, EsR ρ es ents.toList ∧ (Instr.lookup t (va m) (va k) ok).run P w = (do
      Instr.checkKey ents.isEmpty 10000 kt (va k)
      let (v, ok') ← match ← Instr.findKey kt (va k) ents.toList with
        | some (_, v) => pure (v, true)
        | none => pure (← zeroValue e, false)
      pure (if ok then .tuple #[v, .bool ok'] else v) : Sem Value).run P w := by
    unfold mapEs at hes
    split at hes <;> try (cases hes; done)
    · simp only [Option.some.injEq, Prod.mk.injEq] at hes
      obtain ⟨rfl, rfl⟩ := hes
      simp only [CR] at em
      exact ⟨#[], rfl, by simp only [Instr.lookup, Sem.run_bind, run_underlying hu, Result.andThen_ok, em, Sem.run_pure]; rfl⟩
    · split at hes <;> try (cases hes; done)
      rename_i nm es' hblk
      simp only [Option.some.injEq, Prod.mk.injEq] at hes
      obtain ⟨rfl, rfl⟩ := hes
      obtain ⟨b, c, e1, e2⟩ := em
      obtain ⟨b', c', o, g1, g2, g3⟩ := hr.ok _ _ hblk
      rw [e1] at g1
      simp only [Option.some.injEq, Prod.mk.injEq] at g1
      obtain ⟨rfl, rfl⟩ := g1
      obtain ⟨ents, cl, rfl, g4⟩ := g3
      exact ⟨ents, g4, by simp only [Instr.lookup, Sem.run_bind, run_underlying hu, Result.andThen_ok, e2, run_getMap g2, Sem.run_pure]; rfl⟩
  obtain ⟨ents, he, hrun⟩ := hent
  unfold lookRes at h
  split at h
  · rename_i j v hfk
    simp only [Option.some.injEq] at h; subst h
    obtain ⟨V, e', q1, q2, _⟩ := findKey_ok hko ek hfk he
    refine ⟨if ok then .tuple #[V, .bool true] else V, w, ρ, ?_, Out.quiet ?_ hr hf⟩
    · rw [hrun]
      simp only [Sem.run_bind, run_checkKey hd hko ek, Result.andThen_ok, run_findKey hd q1, Sem.run_pure]
    · cases ok
      · exact q2
      · exact ⟨[V, .bool true], ⟨V, _, q2, ⟨_, _, rfl, rfl, rfl⟩, rfl⟩, rfl⟩
  · rename_i hfk
    simp only [Option.some.injEq] at h; subst h
    have q1 := findKey_ok hko ek hfk he
    refine ⟨if ok then .tuple #[zv, .bool false] else zv, w, ρ, ?_, Out.quiet ?_ hr hf⟩
    · rw [hrun]
      simp only [Sem.run_bind, run_checkKey hd hko ek, Result.andThen_ok, run_findKey hd q1, Sem.run_pure, z1]
    · cases ok
      · exact z2
      · exact ⟨[zv, .bool false], ⟨zv, _, z2, ⟨_, _, rfl, rfl, rfl⟩, rfl⟩, rfl⟩
  · cases h

omit hr hf in
theorem EsR.set : ∀ {es : List (Cell × AV)} {ents : List MapEntry}, EsR ρ es ents → ∀ (i : Nat) (k : Cell) (v : AV) (f : MapEntry → MapEntry), (∀ e, CR ρ k (f e).key ∧ AVR ρ v (f e).val) → EsR ρ (es.set i (k, v)) (ents.modify i f)
  | [], _, h, i, k, v, f, _ => by simp only [EsR] at h; subst h; simp [EsR]
  | (c, u) :: es, _, ⟨e, es', h1, h2, h3, h4⟩, i, k, v, f, hf => by
    subst h4
    cases i with
    | zero => exact ⟨f e, es', (hf e).1, (hf e).2, h3, by simp⟩
    | succ i => exact ⟨e, es'.modify i f, h1, h2, h3.set i k v f hf, by simp⟩

omit hr hf in
theorem EsR.push : ∀ {es : List (Cell × AV)} {ents : List MapEntry}, EsR ρ es ents → ∀ (k : Cell) (v : AV) (e : MapEntry), CR ρ k e.key → AVR ρ v e.val → EsR ρ (es ++ [(k, v)]) (ents ++ [e])
  | [], _, h, k, v, e, h1, h2 => by simp only [EsR] at h; subst h; exact ⟨e, [], h1, h2, rfl, rfl⟩
  | (c, u) :: es, _, ⟨e', es', h1, h2, h3, h4⟩, k, v, e, g1, g2 => by
    subst h4
    exact ⟨e', es' ++ [e], h1, h2, h3.push k v e g1 g2, rfl⟩

omit hr hf in
theorem EsR.erase : ∀ {es : List (Cell × AV)} {ents : List MapEntry}, EsR ρ es ents → ∀ (i : Nat), EsR ρ (es.eraseIdx i) (ents.eraseIdx i)
  | [], _, h, i => by simp only [EsR] at h; subst h; simp [EsR]
  | (c, u) :: es, _, ⟨e, es', h1, h2, h3, h4⟩, i => by
    subst h4
    cases i with
    | zero => exact h3
    | succ i => exact ⟨e, es'.eraseIdx i, h1, h2, h3.erase i, by simp⟩

omit hr hf in
theorem keyStays {d : TypeDesc} {k c : Cell} {K C : Value} (hd : keyOK (some d) k = true) (h : eqKey k c = some true) (hk : CR ρ k K) (hc : CR ρ c C) : (Instr.keyThatStays C K).run P w = .ok K w := by
  have : ∀ n, Instr.sameBits n C K = true := by
    intro n
    unfold eqKey at h
    split at h <;> try (cases h; done)
    · split at h <;> try (cases h; done)
      rename_i hkk
      subst hkk
      simp only [Option.some.injEq, beq_iff_eq] at h
      simp only [CR] at hk hc
      subst hk hc h
      cases n <;> simp [Instr.sameBits]
    · simp only [Option.some.injEq] at h
      simp only [CR] at hk hc
      subst hk hc
      rw [beq_toListBytes, beq_iff_eq] at h
      cases n <;> simp [Instr.sameBits, beq_toListBytes, h]
    · simp only [Option.some.injEq, beq_iff_eq] at h
      simp only [CR] at hk hc
      subst hk hc h
      cases n <;> simp [Instr.sameBits]
  simp [Instr.keyThatStays, this]

omit hr hf in
theorem keyTy_ok {t : TypeId} {d : TypeDesc} (h : keyTy P t = some d) : ∃ kt e, P.underlying t = some (.map kt e) ∧ P.underlying kt = some d := by
  unfold keyTy at h
  split at h
  · exact ⟨_, _, by assumption, h⟩
  · cases h

theorem stMapUpdate_ok {t : TypeId} {m k x : Operand} (h : stMapUpdate P ev hp t m k x = some r) (hm : EvR ρ ev va m) (hk : EvR ρ ev va k) (hx : EvR ρ ev va x) :
    ∃ w' ρ', (Instr.mapUpdate t (va m) (va k) (va x)).run P w = .ok () w' ∧ Out ρ hp nx w r.u r.v undef ρ' w' := by
  unfold stMapUpdate at h
  split at h <;> try (cases h; done)
  rename_i nm hmc
  split at h <;> try (cases h; done)
  rename_i kc hkc
  split at h <;> try (cases h; done)
  rename_i v hv
  split at h <;> try (cases h; done)
  rename_i es hblk
  split at h <;> try (cases h; done)
  rename_i hko
  obtain ⟨b, c, e1, e2⟩ := hm _ hmc
  have ek : CR ρ kc (va k) := hk _ hkc
  have ex : AVR ρ v (va x) := hx _ hv
  obtain ⟨d, hd⟩ := keyOK_some hko
  rw [hd] at hko
  obtain ⟨kt, e, hu, hu2⟩ := keyTy_ok hd
  obtain ⟨b', c', o, g1, g2, g3⟩ := hr.ok _ _ hblk
  rw [e1] at g1
  simp only [Option.some.injEq, Prod.mk.injEq] at g1
  obtain ⟨rfl, rfl⟩ := g1
  obtain ⟨ents, cl, rfl, g4⟩ := g3
  unfold mapPut at h
  split at h
  · rename_i i v0 hfk
    simp only [Option.some.injEq] at h; subst h
    obtain ⟨V, e', q1, q2, q3, q4, c', q5, q6, q7⟩ := findKey_ok hko ek hfk g4
    have hent : ents[i]? = some e' := by simpa using q4
    obtain ⟨w', s1, s2⟩ := run_setMap (P := P) (o' := .map (ents.modify i fun e => { e with key := va k, val := va x }) cl) g2 (by intros; simp)
    refine ⟨w', ρ, ?_, hr.wrOut hf hblk rfl e1 ⟨_, _, rfl, ?_⟩ s2 ⟨[], rfl, rfl⟩⟩
    · simp only [Instr.mapUpdate, Sem.run_bind, run_underlying hu, Result.andThen_ok, e2, run_getMap g2, run_checkKey hu2 hko ek, run_findKey hu2 q1, hent, Option.map_some, Option.getD_some, keyStays hko q6 ek q7, s1]
    · have := g4.set i kc v (fun e => { e with key := va k, val := va x }) fun e => ⟨ek, ex⟩
      simpa using this
  · rename_i hfk
    simp only [Option.some.injEq] at h; subst h
    have q1 := findKey_ok hko ek hfk g4
    obtain ⟨w', s1, s2⟩ := run_setMap (P := P) (o' := .map (ents.push { key := va k, val := va x, born := cl }) (cl + 1)) g2 (by intros; simp)
    refine ⟨w', ρ, ?_, hr.wrOut hf hblk rfl e1 ⟨_, _, rfl, ?_⟩ s2 ⟨[], rfl, rfl⟩⟩
    · simp only [Instr.mapUpdate, Sem.run_bind, run_underlying hu, Result.andThen_ok, e2, run_getMap g2, run_checkKey hu2 hko ek, run_findKey hu2 q1, s1]
    · have := g4.push kc v { key := va k, val := va x, born := cl } ek ex
      simpa using this
  · cases h

end ops
end Go.Sx
