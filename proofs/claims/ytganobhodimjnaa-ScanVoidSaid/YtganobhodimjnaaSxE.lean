/-
  A part of the executor Sx over the model's code (any program): its words, or its proof; no seat's statement stands here.
-/
import Derived.Test.YtganobhodimjnaaSxL
namespace Go.Sx

def Top (s : S) : Prop := ∀ nm, s.nx ≤ nm → s.hp.get nm = none

structure Abs (s s' : S) (L : List Nat) : Prop where
  lg : s'.lg = L ++ s.lg
  le : s.nx ≤ s'.nx
  keep : ∀ nm, nm < s.nx → nm ∉ L → s'.hp.get nm = s.hp.get nm
  top : Top s'
  lt : ∀ nm, nm ∈ L → nm < s'.nx

theorem Abs.refl {s : S} (h : Top s) : Abs s s [] := ⟨rfl, Nat.le_refl _, fun _ _ _ => rfl, h, fun _ h => by cases h⟩

theorem Abs.trans {s1 s2 s3 : S} {L1 L2 : List Nat} (a : Abs s1 s2 L1) (b : Abs s2 s3 L2) : Abs s1 s3 (L2 ++ L1) where
  lg := by rw [b.lg, a.lg, List.append_assoc]
  le := Nat.le_trans a.le b.le
  keep := fun nm h hn => by
    rw [List.mem_append, not_or] at hn
    rw [b.keep nm (Nat.lt_of_lt_of_le h a.le) hn.1, a.keep nm h hn.2]
  top := b.top
  lt := fun nm h => by
    rcases List.mem_append.1 h with h | h
    · exact b.lt nm h
    · exact Nat.lt_of_lt_of_le (a.lt nm h) b.le

noncomputable def slot (n : Nat) (sl : T RV) (t : Nat) : RV := (if t < n then sl.get t else none).getD und

theorem eval_tmp (n : Nat) (sl : T RV) (t : Nat) : eval n sl (.tmp t) = some (slot n sl t) := by
  show (if t < n then (match sl.get t with | some v => some v | none => some und) else some und) = _
  unfold slot
  split
  · cases sl.get t <;> rfl
  · rfl

variable {P : Program} {ρ : Rho} {w : World}

theorem und_ok : RVR ρ und undef := ⟨[], rfl, rfl⟩

theorem eval_ok {n : Nat} {sl : T RV} {a : Act} {x : Operand} (h : ∀ t, x = .tmp t → RVR ρ (slot n sl t) (a.tmps.getD t undef)) : EvR ρ (eval n sl) a.eval x := by
  intro v hv
  cases x with
  | tmp t =>
    rw [eval_tmp, Option.some.injEq] at hv
    subst hv
    exact h t rfl
  | const c =>
    simp only [eval] at hv
    split at hv
    · rename_i l
      split at hv <;> try (cases hv; done)
      rename_i hl
      simp only [Option.some.injEq] at hv; subst hv
      have : l = #[] := by cases l; simp_all
      subst this
      exact und_ok
    · split at hv <;> try (cases hv; done)
      rename_i c' hc
      simp only [Option.some.injEq] at hv; subst hv
      exact cellOf_ok (ρ := ρ) hc
  | global g => simp [eval] at hv
  | func f =>
    simp only [eval, Option.some.injEq] at hv; subst hv
    exact ⟨[], rfl, rfl⟩

section upd
variable {β : Type}

theorem applyU_ok {z : Bool} {u : Upd} {s : S} {k : S → Option β} {r : β} (h : applyU z u s k = some r) :
    ∃ s', k s' = some r ∧ s'.sl = s.sl ∧ s'.hp.get = u.hp s.hp.get s.nx ∧ s'.nx = u.nx s.nx ∧ s'.lg = u.log ++ s.lg ∧ (∀ nm, nm ∈ u.log → nm < s.nx) := by
  cases u with
  | none => exact ⟨s, h, rfl, rfl, rfl, rfl, by simp [Upd.log]⟩
  | new b =>
    simp only [applyU, sBlk_eq] at h
    obtain ⟨t, h1, h2⟩ := T.set_ok _ _ _ _ _ _ h
    rw [fNat_eq] at h1
    exact ⟨_, h1, rfl, funext fun j => by rw [h2]; rfl, rfl, rfl, by simp [Upd.log]⟩
  | wr nm b =>
    simp only [applyU, sBlk_eq] at h
    cases hb : Nat.blt nm s.nx with
    | false => rw [hb] at h; cases h
    | true =>
      rw [hb] at h
      obtain ⟨t, h1, h2⟩ := T.set_ok _ _ _ _ _ _ h
      refine ⟨_, h1, rfl, funext fun j => by rw [h2]; rfl, rfl, rfl, ?_⟩
      intro nm' e
      simp only [Upd.log, List.mem_singleton] at e
      rw [e]
      exact Nat.le_of_ble_eq_true hb
  | mv nm b =>
    simp only [applyU, sBlk_eq] at h
    cases hb : Nat.blt nm s.nx with
    | false => rw [hb] at h; cases h
    | true =>
      rw [hb] at h
      obtain ⟨t, h1, h2⟩ := T.set_ok _ _ _ _ _ _ h
      obtain ⟨t', h3, h4⟩ := T.set_ok _ _ _ _ _ _ h1
      rw [fNat_eq] at h3
      refine ⟨_, h3, rfl, funext fun j => ?_, rfl, rfl, ?_⟩
      · rw [h4]
        simp only [Upd.hp, upd, h2]
      · intro nm' e
        simp only [Upd.log, List.mem_singleton] at e
        rw [e]
        exact Nat.le_of_ble_eq_true hb

theorem putDst_ok {n : Nat} {d : Option Tmp} {v : RV} {s : S} {k : S → Option β} {r : β} (h : putDst n d v s k = some r) :
    ∃ s', k s' = some r ∧ s'.hp = s.hp ∧ s'.nx = s.nx ∧ s'.lg = s.lg ∧ (∀ i, s'.sl.get i = if d = some i then some v else s.sl.get i) ∧ (∀ d', d = some d' → d' < n) := by
  cases d with
  | none => exact ⟨s, h, rfl, rfl, rfl, by simp, by simp⟩
  | some d =>
    simp only [putDst] at h
    split at h <;> try (cases h; done)
    rename_i hlt
    obtain ⟨t, h1, h2⟩ := T.set_ok _ _ _ _ _ _ h
    refine ⟨_, h1, rfl, rfl, rfl, fun i => ?_, ?_⟩
    · rw [h2]
      by_cases e : i = d
      · subst e; simp
      · have : ¬ (some d = some i) := by intro h; cases h; exact e rfl
        simp [e, this]
    · intro d' hd; cases hd; exact hlt
end upd

theorem HRel.none {h : Hp} {nx i : Nat} (hr : HRel ρ h w) (hf : Fresh ρ nx) (hi : nx ≤ i) : h i = none := by
  cases hx : h i with
  | none => rfl
  | some x =>
    obtain ⟨b, c, o, g1, _⟩ := hr.ok i x hx
    rw [hf i hi] at g1; cases g1

/-! ## Frames: what a call does to its part of the heap it does to the whole -/
theorem Stp.lift {h sub sub' : Hp} {nx nx' : Nat} {w' : World} {ρ' : Rho} {L : List Nat} (hr : HRel ρ h w) (hf : Fresh ρ nx) (hs : ∀ i x, sub i = some x → h i = some x)
    (st : Stp ρ sub nx w ρ' sub' nx' w' L) (hr' : HRel ρ' sub' w') :
    ∃ h', HRel ρ' h' w' ∧ Stp ρ h nx w ρ' h' nx' w' L ∧ (∀ nm, nm ∈ L ∨ nx ≤ nm → h' nm = sub' nm) := by
  let inn : Nat → Bool := fun nm => decide (nm ∈ L) || decide (nx ≤ nm)
  let h' : Hp := fun nm => if inn nm = true then sub' nm else h nm
  have hin : ∀ nm, nm ∈ L ∨ nx ≤ nm → h' nm = sub' nm := by
    intro nm hm
    show (if inn nm = true then sub' nm else h nm) = sub' nm
    rw [if_pos]
    simpa [inn] using hm
  have hout : ∀ nm, nm ∉ L → nm < nx → h' nm = h nm := by
    intro nm h1 h2
    show (if inn nm = true then sub' nm else h nm) = h nm
    rw [if_neg]
    simp [inn, h1]; exact h2
  have noW : ∀ nm b c x, nm ∉ L → nm < nx → h nm = some x → ρ nm = some (b, c) → ∀ nm0 c0, nm0 ∈ L → nm0 < nx → ρ nm0 ≠ some (b, c0) := by
    intro nm b c x h1 h2 h3 h4 nm0 c0 h5 h6 h7
    obtain ⟨x0, o1, o2⟩ := st.own nm0 h5 h6
    have := hr.inj nm0 nm x0 x b c0 c (hs _ _ o1) h3 o2 h7 h4
    subst this
    exact h1 h5
  have mixed : ∀ i j p q b c c', (i ∈ L ∨ nx ≤ i) → j ∉ L → j < nx → sub' i = some p → h j = some q → ρ' i = some (b, c) → ρ j = some (b, c') → False := by
    intro i j p q b c c' hi hj1 hj2 h1 h2 h3 h4
    by_cases hlt : i < nx
    · have hi : i ∈ L := hi.resolve_right (by omega)
      rw [st.rho i hlt] at h3
      exact noW j b c' q hj1 hj2 h2 h4 i c hi hlt h3
    · rcases st.new i b c (by omega) h3 with h | ⟨nm0, c0, m1, m2, m3⟩
      · obtain ⟨b', c'', o, g1, g2, _⟩ := hr.ok j q h2
        rw [h4] at g1
        simp only [Option.some.injEq, Prod.mk.injEq] at g1
        obtain ⟨rfl, _⟩ := g1
        have := lt_of_get g2
        omega
      · exact noW j b c' q hj1 hj2 h2 h4 nm0 c0 m1 m2 m3
  refine ⟨h', ⟨?_, ?_⟩, ?_, hin⟩
  · intro nm x hx
    by_cases hc : nm ∈ L ∨ nx ≤ nm
    · rw [hin nm hc] at hx
      exact hr'.ok nm x hx
    · rw [not_or] at hc
      have hlt : nm < nx := by omega
      rw [hout nm hc.1 hlt] at hx
      obtain ⟨b, c, o, g1, g2, g3⟩ := hr.ok nm x hx
      refine ⟨b, c, o, by rw [st.rho nm hlt]; exact g1, ?_, g3.mono (st.sub hf)⟩
      rw [st.frame b (lt_of_get g2) fun nm0 c0 m1 m2 => noW nm b c x hc.1 hlt hx g1 nm0 c0 m1 m2]
      exact g2
  · intro i j p q b c c' hp1 hq1 hw h1 h2
    by_cases hi : i ∈ L ∨ nx ≤ i <;> by_cases hj : j ∈ L ∨ nx ≤ j
    · rw [hin i hi] at hp1
      rw [hin j hj] at hq1
      exact hr'.inj _ _ _ _ _ _ _ hp1 hq1 hw h1 h2
    · rw [not_or] at hj
      have hlt : j < nx := by omega
      rw [hin i hi] at hp1
      rw [hout j hj.1 hlt] at hq1
      rw [st.rho j hlt] at h2
      exact (mixed i j p q b c c' hi hj.1 hlt hp1 hq1 h1 h2).elim
    · rw [not_or] at hi
      have hlt : i < nx := by omega
      rw [hin j hj] at hq1
      rw [hout i hi.1 hlt] at hp1
      rw [st.rho i hlt] at h1
      exact (mixed j i q p b c' c hj hi.1 hlt hq1 hp1 h2 h1).elim
    · rw [not_or] at hi hj
      rw [hout i hi.1 (by omega)] at hp1
      rw [hout j hj.1 (by omega)] at hq1
      rw [st.rho i (by omega)] at h1
      rw [st.rho j (by omega)] at h2
      exact hr.inj _ _ _ _ _ _ _ hp1 hq1 hw h1 h2
  · exact ⟨st.le, st.rho, fun nm h1 h2 => hout nm h2 h1, st.size, st.frame, st.new, fun nm h1 h2 => by
      obtain ⟨x, o1, o2⟩ := st.own nm h1 h2
      exact ⟨x, hs _ _ o1, o2⟩, st.os, st.tape, st.out⟩

/-! ## One operation -/
def ArgsR (ρ : Rho) : List RV → List Value → Prop
  | [], vs => vs = []
  | v :: l, vs => ∃ V vs', RVR ρ v V ∧ ArgsR ρ l vs' ∧ vs = V :: vs'

structure CallInfo (P : Program) (f : FuncId) (args : List RV) (s : S) (v : RV) (s' : S) (L : List Nat) : Prop where
  fn : ∃ fn, P.funcs[f]? = some fn ∧ fn.body.isNone = false
  sl : s'.sl = s.sl
  abs : Abs s s' L
  run : ∀ (ρ : Rho) (w : World) (vs : List Value), HRel ρ s.hp.get w → Fresh ρ s.nx → ArgsR ρ args vs → Calls P f vs.toArray w fun e w' =>
    ∃ V ρ', e = .returned V ∧ RVR ρ' v V ∧ HRel ρ' s'.hp.get w' ∧ Fresh ρ' s'.nx ∧ Stp ρ s.hp.get s.nx w ρ' s'.hp.get s'.nx w' L

def CallOK (P : Program) {β : Type} (call : CallF β) : Prop := ∀ f args s k r, Top s → call f args s k = some r → ∃ v s' L, k v s' = some r ∧ CallInfo P f args s v s' L

def NeedR (nd : Need) (s : S) (h : Hp) : Prop :=
  match nd with
  | some l => ∀ nm ∈ l, h nm = s.hp.get nm
  | none => ∀ nm x, s.hp.get nm = some x → h nm = some x

structure OpLoc (P : Program) (n : Nat) (ops : Array Oper) (o : Oper) (s : S) (nd : Need) (s' : S) (L : List Nat) : Prop where
  abs : Abs s s' L
  other : ∀ i, o.dst ≠ some i → s'.sl.get i = s.sl.get i
  dst : ∀ d, o.dst = some d → d < n
  run : ∀ (ρ : Rho) (w : World) (a : Act) (h : Hp), a.tmps.size = n → (∀ t ∈ tmpsOf o.op.operands.toList ++ guardTmp ops.toList o, RVR ρ (slot n s.sl t) (a.tmps.getD t undef)) →
    HRel ρ h w → Fresh ρ s.nx → NeedR nd s h →
    ∀ (next : Act → World → Prop) (Q : Exit → Act → World → Prop),
      (∀ V w' ρ' h', (∀ d, o.dst = some d → RVR ρ' (slot n s'.sl d) V) → HRel ρ' h' w' → Fresh ρ' s'.nx → Stp ρ h s.nx w ρ' h' s'.nx w' L → (∀ nm, nm ∈ L ∨ s.nx ≤ nm → h' nm = s'.hp.get nm) → next (a.put o.dst V) w') →
      if Region.wanted o (yielded ops a.tmps) then o.wp P a w next Q else next (a.put o.dst undef) w

theorem mem_tmpsOf {x : Operand} {t : Tmp} : ∀ {l : List Operand}, x ∈ l → x = .tmp t → t ∈ tmpsOf l
  | y :: l, h, e => by
    subst e
    rcases List.mem_cons.1 h with rfl | h
    · simp [tmpsOf]
    · have := mem_tmpsOf (t := t) h rfl
      cases y <;> simp [tmpsOf, this]

theorem guard_ok {n : Nat} {ops : Array Oper} {sl : T RV} {o : Oper} {g : Bool} (hg : guardOf n ops.toList sl o = some g) {a : Act} (hsz : a.tmps.size = n)
    (h : ∀ t ∈ guardTmp ops.toList o, RVR ρ (slot n sl t) (a.tmps.getD t undef)) : Region.wanted o (yielded ops a.tmps) = g := by
  unfold guardOf at hg
  unfold Region.wanted
  split at hg
  · rename_i h0
    simp only [Option.some.injEq] at hg
    rw [h0, ← hg]
  · rename_i j want h0
    split at hg <;> try (cases hg; done)
    rename_i oj hoj
    split at hg <;> try (cases hg; done)
    rename_i d hd
    rw [h0]
    have ho' : ops[j]? = some oj := by simpa using hoj
    have hmem : d ∈ guardTmp ops.toList o := by simp [guardTmp, h0, hoj, hd]
    have hR := h d hmem
    have hy : yielded ops a.tmps j = (match a.tmps[d]? with | some (.bool b) => some b | _ => none) := by
      simp [yielded, ho', hd]
      rfl
    rw [eval_tmp] at hg
    by_cases hlt : d < n
    · have hget : a.tmps[d]? = some (a.tmps.getD d undef) := by
        rw [Array.getElem?_eq_getElem (show d < a.tmps.size from by rw [hsz]; exact hlt)]
        simp [Array.getD, hsz, hlt]
      split at hg <;> try (cases hg; done)
      · rename_i b hb
        simp only [Option.some.injEq] at hb hg
        rw [hb] at hR
        simp only [RVR, AVR, CR] at hR
        rw [hR] at hget
        simp only [hy, hget, ← hg]
        cases b <;> cases want <;> rfl
      · rename_i hb
        simp only [Option.some.injEq] at hb hg
        rw [hb] at hR
        obtain ⟨vs, h1, h2⟩ := hR
        simp only [AVsR] at h1
        subst h1
        rw [h2] at hget
        simp only [hy, hget, ← hg]
        rfl
    · have hget : a.tmps[d]? = none := Array.getElem?_eq_none (by rw [hsz]; exact Nat.le_of_not_lt hlt)
      have : slot n sl d = und := by simp [slot, hlt]
      rw [this] at hg
      simp only [Option.some.injEq] at hg
      simp only [hy, hget, ← hg]
      rfl

theorem upon_of_OpR {o : Oper} {a : Act} {hp : Hp} {nx : Nat} {r : Res} {next : Act → World → Prop} {Q : Exit → Act → World → Prop} (h : OpR P ρ hp nx w (execOp a.eval o) r)
    (hn : ∀ V w' ρ', Out ρ hp nx w r.u r.v V ρ' w' → next (a.put o.dst V) w') : o.wp P a w next Q := by
  obtain ⟨V, w', ρ', h1, h2⟩ := h
  unfold Oper.wp
  rcases h1 with h1 | ⟨h1, rfl⟩
  · rw [h1]; exact hn _ _ _ h2
  · rw [h1]; exact hn _ _ _ h2

section op
variable {β : Type} {z : Bool} {call : CallF β} (hcall : CallOK P call)
  (hng : ∀ (g : Nat) (fn : Func), P.funcs[g]? = some fn → (fn.name == "runtime.NumGoroutine") = false)
include hcall hng

omit hcall hng in
theorem evl_args {n : Nat} {sl : T RV} {a : Act} : ∀ {l : List Operand} {vs : List RV}, evl (eval n sl) l = some vs → (∀ x ∈ l, EvR ρ (eval n sl) a.eval x) → ArgsR ρ vs (l.map a.eval)
  | [], vs, h, _ => by simp [evl] at h; subst h; rfl
  | x :: l, vs, h, hx => by
    simp only [evl] at h
    split at h <;> try (cases h; done)
    rename_i v vs' h1 h2
    simp only [Option.some.injEq] at h; subst h
    exact ⟨_, _, hx x (by simp) _ h1, evl_args h2 fun y hy => hx y (List.mem_cons_of_mem _ hy), rfl⟩

omit hcall hng in
theorem ArgsR.append : ∀ {l m : List RV} {vs us : List Value}, ArgsR ρ l vs → ArgsR ρ m us → ArgsR ρ (l ++ m) (vs ++ us)
  | [], _, _, _, h, g => by simp only [ArgsR] at h; subst h; simpa using g
  | _ :: _, _, _, _, ⟨v, vs', h1, h2, h3⟩, g => by subst h3; exact ⟨v, _, h1, h2.append g, rfl⟩

omit hcall hng in
theorem caps_args : ∀ {l : List (Nat × Nat)} {vs : List Value}, CapsR ρ l vs → ArgsR ρ (l.map fun (nm, off) => .one (.c (.ptr nm off))) vs
  | [], _, h => h
  | (_, _) :: _, _, ⟨b, c, vs', h1, h2, h3⟩ => ⟨_, vs', ⟨b, c, h1, rfl⟩, caps_args h2, h3⟩

theorem opRun_ok {n : Nat} {ops : Array Oper} {o : Oper} {s : S} {k : Need → S → Option β} {r : β} (htop : Top s) (h : opRun P z call n ops.toList o s k = some r) :
    ∃ nd s' L, k nd s' = some r ∧ OpLoc P n ops o s nd s' L := by
  unfold opRun at h
  split at h <;> try (cases h; done)
  rename_i g hg
  split at h
  · -- wanted
    split at h
    · -- a call
      rename_i f args hic
      unfold isCall at hic
      split at hic <;> try (cases hic; done)
      rename_i c hop
      split at hic <;> try (cases hic; done)
      rename_i fo hcal
      simp only [Option.some.injEq, Prod.mk.injEq] at hic
      obtain ⟨rfl, rfl⟩ := hic
      unfold callRun at h
      split at h <;> try (cases h; done)
      rename_i fid caps hcallee
      split at h <;> try (cases h; done)
      rename_i l hl
      obtain ⟨v, s1, L, h1, hi⟩ := hcall _ _ _ _ _ htop h
      obtain ⟨s2, h2, e1, e2, e3, e4, e5⟩ := putDst_ok h1
      refine ⟨none, s2, L, h2, ⟨⟨by rw [e3, hi.abs.lg], by rw [e2]; exact hi.abs.le, fun nm q1 q2 => by rw [e1]; exact hi.abs.keep nm q1 q2, fun nm q => by rw [e1]; exact hi.abs.top nm (by omega), fun nm q => by rw [e2]; exact hi.abs.lt nm q⟩, ?_, e5, ?_⟩⟩
      · intro i hne
        rw [e4, if_neg hne, hi.sl]
      · intro ρ w a hh hsz hop' hr hf hnd next Q hn
        have hgd := guard_ok (ρ := ρ) hg hsz fun t ht => hop' t (List.mem_append.2 (.inr ht))
        rw [hgd, if_pos rfl]
        have hev : ∀ x ∈ o.op.operands.toList, EvR ρ (eval n s.sl) a.eval x := fun x hx => eval_ok fun t ht => hop' t (List.mem_append.2 (.inl (mem_tmpsOf hx ht)))
        have hmem : ∀ x ∈ c.args.toList, x ∈ o.op.operands.toList := fun x hx => by
          rw [hop]; simp only [Op.operands, Call.operands, Array.toList_append, List.mem_append]; exact .inr hx
        have hfo : fo ∈ o.op.operands.toList := by rw [hop]; simp [Op.operands, Call.operands, hcal]
        have hargs := evl_args hl fun x hx => hev x (hmem x hx)
        unfold calleeOf at hcallee
        split at hcallee <;> try (cases hcallee; done)
        rename_i f' caps' hf'
        simp only [Option.some.injEq, Prod.mk.injEq] at hcallee
        obtain ⟨rfl, rfl⟩ := hcallee
        obtain ⟨cvs, c1, c2⟩ := hev fo hfo _ hf'
        have hsub : HRel ρ s.hp.get w := hr.sub hnd
        have hC := hi.run ρ w _ hsub hf (ArgsR.append hargs (caps_args c1))
        obtain ⟨fn, f1, f2⟩ := hi.fn
        have hexec : (execOp a.eval o).run P w = .ok (.enter f' (c.args.toList.map a.eval ++ cvs).toArray) w := by
          have ha : (c.args.map a.eval) ++ cvs.toArray = (c.args.toList.map a.eval ++ cvs).toArray := by
            apply Array.toList_inj.1; simp
          simp only [execOp, hop, resolve, hcal, Deferred.ofValue, c2, Sem.run_bind, Sem.run_pure, Result.andThen_ok, invoke, callFunc, run_program, f1, hng _ _ f1, f2, Bool.false_eq_true, if_false]
          rw [← ha]
          simp
        unfold Oper.wp
        rw [hexec, Oper.upon_enter]
        refine hC.mono fun e w' ⟨V, ρ', he, g1, g2, g3, g4⟩ => ?_
        subst he
        obtain ⟨h', l1, l2, l3⟩ := g4.lift hr hf hnd g2
        refine hn V w' ρ' h' ?_ l1 (by rw [e2]; exact g3) (by rw [e2]; exact l2) (fun nm hm => by rw [l3 nm hm, e1])
        intro d hd
        have hlt := e5 d hd
        simp only [slot, hlt, if_true, e4, hd, Option.getD_some]
        exact g1
    · -- plain
      unfold plainRun at h
      split at h <;> try (cases h; done)
      rename_i res hres
      rw [sRV_eq] at h
      obtain ⟨s1, h1, u1, u2, u3, u4, u5⟩ := applyU_ok h
      obtain ⟨s2, h2, e1, e2, e3, e4, e5⟩ := putDst_ok h1
      have hkeep : ∀ nm, nm < s.nx → nm ∉ res.u.log → s2.hp.get nm = s.hp.get nm := by
        intro nm q1 q2
        rw [e1, u2]
        cases hu : res.u <;> rw [hu] at q2 <;> simp only [Upd.hp, Upd.log, List.mem_singleton] at q2 ⊢
        · rw [upd_ne _ _ (by omega)]
        · rw [upd_ne _ _ q2]
        · rw [upd_ne _ _ (by omega), upd_ne _ _ q2]
      have htop' : Top s2 := by
        intro nm q
        rw [e2, u3] at q
        rw [e1, u2]
        cases hu : res.u <;> rw [hu] at q <;> simp only [Upd.nx] at q <;> simp only [Upd.hp]
        · exact htop nm q
        · rw [upd_ne _ _ (by omega)]; exact htop nm (by omega)
        · rename_i nm' b
          by_cases e : nm = nm'
          · subst e
            have := u5 nm (by rw [hu]; simp [Upd.log])
            omega
          · rw [upd_ne _ _ e]; exact htop nm (by omega)
        · rename_i nm' b
          rw [upd_ne _ _ (by omega)]
          by_cases e : nm = nm'
          · subst e; rw [upd_same]
          · rw [upd_ne _ _ e]; exact htop nm (by omega)
      refine ⟨some res.need, s2, res.u.log, h2, ⟨⟨by rw [e3, u4], ?_, hkeep, htop', fun nm q => ?_⟩, ?_, e5, ?_⟩⟩
      · rw [e2, u3]; cases res.u <;> simp [Upd.nx]
      · have := u5 nm q
        have : s.nx ≤ s2.nx := by rw [e2, u3]; cases res.u <;> simp [Upd.nx]
        omega
      · intro i hne
        rw [e4, if_neg hne, u1]
      · intro ρ w a hh hsz hop' hr hf hnd next Q hn
        have hgd := guard_ok (ρ := ρ) hg hsz fun t ht => hop' t (List.mem_append.2 (.inr ht))
        rw [hgd, if_pos rfl]
        have hev : ∀ x ∈ o.op.operands.toList, EvR ρ (eval n s.sl) a.eval x := fun x hx => eval_ok fun t ht => hop' t (List.mem_append.2 (.inl (mem_tmpsOf hx ht)))
        have hres' := opStep_loc (h' := hh) hres hnd
        refine upon_of_OpR (opStep_ok hr hf hres' hev) fun V w' ρ' hO => ?_
        refine hn V w' ρ' _ ?_ hO.rel (by rw [e2, u3]; exact hO.fresh) (by rw [e2, u3]; exact hO.stp) ?_
        · intro d hd
          have hlt := e5 d hd
          simp only [slot, hlt, if_true, e4, hd, Option.getD_some]
          exact hO.val
        · intro nm hm
          rw [e1, u2]
          have hnone : ∀ i, s.nx ≤ i → hh i = s.hp.get i := fun i hi => by rw [htop i hi, hr.none hf hi]
          cases hu : res.u <;> rw [hu] at hm <;> simp only [Upd.log, List.not_mem_nil, List.mem_singleton, false_or] at hm <;> simp only [Upd.hp, upd]
          · exact hnone nm hm
          · split
            · rfl
            · exact hnone nm hm
          · split
            · rfl
            · rename_i hne
              exact hnone nm (hm.resolve_left hne)
          · split
            · rfl
            · split
              · rfl
              · rename_i hne
                exact hnone nm (hm.resolve_left hne)
  · -- passed over
    obtain ⟨s2, h2, e1, e2, e3, e4, e5⟩ := putDst_ok h
    refine ⟨some [], s2, [], h2, ⟨⟨by rw [e3]; rfl, by rw [e2]; exact Nat.le_refl _, fun _ _ _ => by rw [e1], fun nm q => by rw [e1]; exact htop nm (by omega), fun nm q => by cases q⟩, fun i hne => by rw [e4, if_neg hne], e5, ?_⟩⟩
    intro ρ w a hh hsz hop' hr hf hnd next Q hn
    have hgd := guard_ok (ρ := ρ) hg hsz fun t ht => hop' t (List.mem_append.2 (.inr ht))
    rw [hgd, if_neg (by simp)]
    refine hn undef w ρ hh ?_ hr (by rw [e2]; exact hf) (by rw [e2]; exact Stp.refl hf) ?_
    · intro d hd
      have hlt := e5 d hd
      simp only [slot, hlt, if_true, e4, hd, Option.getD_some]
      exact und_ok
    · intro nm hm
      have hm : s.nx ≤ nm := by simpa using hm
      rw [e1, htop nm hm, hr.none hf hm]
end op

end Go.Sx
