/-
  A part of the executor Sx over the model's code (any program): its words, or its proof; no seat's statement stands here.
-/
import Derived.Test.YtganobhodimjnaaSxO3
namespace Go.Sx
variable {P : Program} {ρ : Rho} {w : World} {hp : Hp} {nx : Nat}

/-- a run, and what the executor says of it -/
def SemR (P : Program) (ρ : Rho) (hp : Hp) (nx : Nat) (w : World) (s : Sem Value) (r : Res) : Prop :=
  ∃ V w' ρ', s.run P w = .ok V w' ∧ Out ρ hp nx w r.u r.v V ρ' w'

theorem SemR.q {s : Sem Value} {v : RV} {nd : List Nat} {fz : Bool} {V : Value} (hr : HRel ρ hp w) (hf : Fresh ρ nx) (h : s.run P w = .ok V w) (hv : RVR ρ v V) : SemR P ρ hp nx w s ⟨v, .none, nd, fz⟩ :=
  ⟨V, w, ρ, h, Out.quiet hv hr hf⟩

theorem SemR.quiet {s : Sem Value} {v : AV} {r : Res} {V : Value} (hr : HRel ρ hp w) (hf : Fresh ρ nx) (h : quiet v = some r) (hs : s.run P w = .ok V w) (hv : AVR ρ v V) : SemR P ρ hp nx w s r := by
  simp only [Sx.quiet, Option.some.injEq] at h
  subst h
  exact SemR.q hr hf hs hv

theorem qOpt_ok {x : Option AV} {r : Res} (h : qOpt x = some r) : ∃ v, x = some v ∧ quiet v = some r := by
  unfold qOpt at h
  split at h
  · exact ⟨_, rfl, h⟩
  · cases h

theorem cOpt_ok {x : Option Cell} {r : Res} (h : cOpt x = some r) : ∃ v, x = some v ∧ quiet (.c v) = some r := by
  unfold cOpt at h
  split at h
  · exact ⟨_, rfl, h⟩
  · cases h

/-- what operands are -/
def EvR (ρ : Rho) (ev : Ev) (va : Operand → Value) (x : Operand) : Prop := ∀ v, ev x = some v → RVR ρ v (va x)

section ops
variable {ev : Ev} {va : Operand → Value} {r : Res} (hr : HRel ρ hp w) (hf : Fresh ρ nx)
include hr hf

theorem stMove_ok {x : Operand} (h : stMove ev x = some r) (hx : EvR ρ ev va x) : SemR P ρ hp nx w (pure (va x)) r := by
  unfold stMove at h
  split at h
  · rename_i v hv
    simp only [Option.some.injEq] at h; subst h
    exact SemR.q hr hf rfl (hx v hv)
  · cases h

theorem stPick_ok {c a b : Operand} (h : stPick ev c a b = some r) (hc : EvR ρ ev va c) (ha : EvR ρ ev va a) (hb : EvR ρ ev va b) :
    SemR P ρ hp nx w (do pure (if ← asBool (va c) then va a else va b)) r := by
  unfold stPick at h
  split at h <;> try (cases h; done)
  rename_i t ht
  split at h <;> try (cases h; done)
  rename_i x hx
  split at h <;> try (cases h; done)
  rename_i y hy
  have h1 := hc _ ht
  have h2 := ha _ hx
  have h3 := hb _ hy
  simp only [RVR, AVR, CR] at h1
  unfold pickV at h
  split at h
  · rename_i p q
    simp only [RVR, AVR, CR] at h2 h3
    refine SemR.quiet hr hf h (V := .bool (if t then p else q)) ?_ rfl
    rw [h1, h2, h3]
    cases t <;> simp [asBool]
  · split at h
    · simp only [Option.some.injEq] at h; subst h
      exact SemR.q hr hf (by rw [h1]; simp [asBool]) h2
    · simp only [Option.some.injEq] at h; subst h
      exact SemR.q hr hf (by rw [h1]; simp [asBool]) h3

theorem stNil_ok {x : Operand} {o : Oper} (ho : o.op = .nilCheck x) (h : stNil ev x = some r) (hx : EvR ρ ev va x) : ∃ V w' ρ', (execOp va o).run P w = .ok (.value V) w' ∧ Out ρ hp nx w r.u r.v V ρ' w' := by
  unfold stNil at h
  split at h <;> try (cases h; done)
  · rename_i nm off hv
    have h1 := hx _ hv
    simp only [quiet, Option.some.injEq] at h; subst h
    have h1' := h1
    simp only [RVR, AVR, CR] at h1
    obtain ⟨b, c, e, h1⟩ := h1
    exact ⟨_, w, ρ, by simp only [execOp, ho, h1]; rfl, Out.quiet (by rw [← h1]; exact h1') hr hf⟩
  · rename_i f cs hv
    have h1 := hx _ hv
    simp only [quiet, Option.some.injEq] at h; subst h
    have h1' := h1
    simp only [RVR, AVR, CR] at h1
    obtain ⟨vs, e, h1⟩ := h1
    exact ⟨_, w, ρ, by simp only [execOp, ho, h1]; rfl, Out.quiet (by rw [← h1]; exact h1') hr hf⟩

theorem stBin_ok {op : BinOp} {t : TypeId} {x y : Operand} (h : stBin P ev op t x y = some r) (hx : EvR ρ ev va x) (hy : EvR ρ ev va y) (ox oy : Operand) :
    SemR P ρ hp nx w (do eqGuard op t ox oy (va x) (va y); binOp op t (va x) (va y)) r := by
  unfold stBin at h
  split at h <;> try (cases h; done)
  rename_i a ha
  split at h <;> try (cases h; done)
  rename_i b hb
  obtain ⟨v, hv, hq⟩ := qOpt_ok h
  obtain ⟨V, h1, h2⟩ := run_binRes (w := w) (P := P) op t a b v hv (hx _ ha) (hy _ hb) ox oy
  exact SemR.quiet hr hf hq h2 h1

theorem stUn_ok {op : UnOp} {x : Operand} (h : stUn ev op x = some r) (hx : EvR ρ ev va x) : SemR P ρ hp nx w (Op.unary op (va x)) r := by
  unfold stUn at h
  split at h <;> try (cases h; done)
  rename_i a ha
  obtain ⟨v, hv, hq⟩ := qOpt_ok h
  obtain ⟨V, h1, h2⟩ := run_unRes (w := w) (P := P) op a v hv (hx _ ha)
  exact SemR.quiet hr hf hq h2 h1

theorem stConv_ok {src dst : TypeId} {x : Operand} (h : stConv P ev src dst x = some r) (hx : EvR ρ ev va x) : SemR P ρ hp nx w (convert src dst (va x)) r := by
  unfold stConv at h
  split at h <;> try (cases h; done)
  rename_i k n hv
  split at h <;> try (cases h; done)
  rename_i k1 h1
  split at h <;> try (cases h; done)
  rename_i k2 h2
  have e := hx _ hv
  simp only [RVR, AVR, CR] at e
  refine SemR.quiet hr hf h (V := .int k2 (k2.wrap n)) ?_ rfl
  simp [convert, run_underlying h1, run_underlying h2, e, Conv.intToInt]

theorem stLoad_ok {t : TypeId} {a : Operand} (h : stLoad P ev hp t a = some r) (hx : EvR ρ ev va a) : SemR P ρ hp nx w (Instr.loadAt t (va a)) r := by
  unfold stLoad at h
  split at h <;> try (cases h; done)
  rename_i nm off hv
  split at h <;> try (cases h; done)
  rename_i k hk
  split at h <;> try (cases h; done)
  rename_i t' ro opn b hrow
  split at h <;> try (cases h; done)
  rename_i v hg
  simp only [Option.some.injEq] at h; subst h
  have e := hx _ hv
  simp only [RVR, AVR, CR] at e
  obtain ⟨bl, c, e1, e2⟩ := e
  unfold getRow at hrow
  split at hrow <;> try (cases hrow; done)
  rename_i hblk
  simp only [Option.some.injEq, Prod.mk.injEq] at hrow
  obtain ⟨rfl, rfl, rfl, rfl⟩ := hrow
  obtain ⟨b', c', o, g1, g2, g3⟩ := hr.ok _ _ hblk
  rw [e1] at g1
  simp only [Option.some.injEq, Prod.mk.injEq] at g1
  obtain ⟨rfl, rfl⟩ := g1
  obtain ⟨vs, tail, fr, rfl, q1, q2, q3⟩ := g3
  obtain ⟨V, p1, p2⟩ := run_loadVar' (P := P) g2 hk hg rfl q1
  refine SemR.q hr hf (V := V) ?_ p1
  simp [Instr.loadAt, Instr.sureAddr, e2, p2]

omit hf in
theorem row_ok {nm : Nat} {t : TypeId} {ro : Bool} {opn : Option Nat} {b : Body} (hrow : getRow hp nm = some (t, ro, opn, b)) :
    hp nm = some (.row t ro opn b) ∧ ∃ bl c vs tail fr, ρ nm = some (bl, c) ∧ w.heap[bl]? = some (.cells (vs ++ tail).toArray t fr) ∧ BodyR ρ b vs ∧ (ro = false → fr = (0, 0)) ∧ OpnR opn c (vs ++ tail).length tail := by
  unfold getRow at hrow
  split at hrow <;> try (cases hrow; done)
  rename_i hblk
  simp only [Option.some.injEq, Prod.mk.injEq] at hrow
  obtain ⟨rfl, rfl, rfl, rfl⟩ := hrow
  obtain ⟨b', c', o, g1, g2, g3⟩ := hr.ok _ _ hblk
  obtain ⟨vs, tail, fr, rfl, q1, q2, q3⟩ := g3
  exact ⟨hblk, b', c', vs, tail, fr, g1, g2, q1, q2, q3⟩

/-- cells laid into a named block -/
theorem wrRow {nm bl c : Nat} {t : TypeId} {opn : Option Nat} {b b' : Body} {vs tail us : List Value} {off : Nat} {v : RV} {V : Value}
    (hblk : hp nm = some (.row t false opn b)) (e1 : ρ nm = some (bl, c)) (g2 : w.heap[bl]? = some (.cells (vs ++ tail).toArray t (0, 0)))
    (q3 : OpnR opn c (vs ++ tail).length tail)
    (hl : off + us.length ≤ vs.length) (h1 : ∀ u ∈ us, u.oneCell' = true) (hb : BodyR ρ b' (over vs off us)) (hv : RVR ρ v V) :
    ∃ w', (storeCells ⟨bl, off, none⟩ us).run P w = .ok () w' ∧ Out ρ hp nx w (.wr nm (.row t false opn b')) v V ρ w' := by
  obtain ⟨w', k1, k2⟩ := run_storeRow (P := P) g2 us hl h1
  refine ⟨w', k1, hr.wrOut hf hblk rfl e1 (o := _) ?_ k2 hv⟩
  refine ⟨_, tail, _, rfl, hb, fun _ => rfl, ?_⟩
  simp only [List.length_append, over_length _ _ _ hl] at q3 ⊢
  exact q3

theorem stStore_ok {t : TypeId} {a x : Operand} (h : stStore P ev hp t a x = some r) (ha : EvR ρ ev va a) (hx : EvR ρ ev va x) :
    ∃ w' ρ', (Instr.storeAt t (va a) (va x)).run P w = .ok () w' ∧ Out ρ hp nx w r.u r.v undef ρ' w' := by
  unfold stStore at h
  split at h <;> try (cases h; done)
  rename_i nm off hv
  split at h <;> try (cases h; done)
  rename_i v hvx
  split at h <;> try (cases h; done)
  rename_i ti hti
  split at h <;> try (cases h; done)
  rename_i hsz
  split at h <;> try (cases h; done)
  rename_i u hu
  simp only [Option.some.injEq] at h; subst h
  unfold setAt at hu
  split at hu <;> try (cases hu; done)
  rename_i t' opn b hrow
  split at hu <;> try (cases hu; done)
  rename_i b' hset
  simp only [Option.some.injEq] at hu; subst hu
  obtain ⟨hblk, bl, c, vs, tail, fr, e1, g2, q1, q2, q3⟩ := row_ok hr hrow
  have e := ha _ hv
  simp only [RVR, AVR, CR] at e
  obtain ⟨bl', c', e1', e2⟩ := e
  rw [e1] at e1'
  simp only [Option.some.injEq, Prod.mk.injEq] at e1'
  obtain ⟨rfl, rfl⟩ := e1'
  have hX : AVR ρ v (va x) := hx _ hvx
  obtain ⟨k1, k2⟩ := Body.set_ok hset q1 hX
  obtain ⟨c1, c2, c3⟩ := hX.cells
  have := q2 rfl
  subst this
  obtain ⟨w', p1, p2⟩ := wrRow (P := P) hr hf (v := und) (V := undef) hblk e1 g2 q3 k1 (c2.one) k2 ⟨[], rfl, rfl⟩
  refine ⟨w', ρ, ?_, p2⟩
  simp only [Instr.storeAt, Instr.sureAddr, e2, storeVar, Sem.run_bind, Sem.run_pure, Result.andThen_ok, run_sz hti]
  rw [if_neg (by omega)]
  exact p1

omit hr hf in
theorem zeroAV_ok {t : TypeId} {z : AV} (h : zeroAV P t = some z) : ∃ zv, (zeroValue t).run P w = .ok zv w ∧ AVR ρ z zv := by
  unfold zeroAV at h
  split at h <;> try (cases h; done)
  rename_i k hk
  split at h <;> try (cases h; done)
  rename_i i hi
  have key : ∀ zv, i.zero = some zv → (zeroValue t).run P w = .ok zv w := fun zv hz => by simp [zeroValue, run_tInfo hi, hz]
  have cs_ok : ∀ (l : List Value) (m : List Cell), cellsOf l = some m → CsR ρ m l := by
    intro l
    induction l with
    | nil => intro m hm; simp [cellsOf] at hm; subst hm; rfl
    | cons v vs ih =>
      intro m hm
      simp only [cellsOf] at hm
      split at hm <;> try (cases hm; done)
      rename_i c cs h1 h2
      simp only [Option.some.injEq] at hm; subst hm
      exact ⟨v, vs, cellOf_ok h1, ih _ h2, rfl⟩
  split at h
  · rename_i cs hz
    refine ⟨_, key _ hz, ?_⟩
    unfold zeroOf at h
    split at h <;> try (cases h; done)
    rename_i l hl
    have hc := cs_ok _ _ hl
    split at h <;> try (cases h; done)
    · split at h <;> try (cases h; done)
      rename_i l' hl'
      split at h <;> try (cases h; done)
      rename_i hn
      simp only [Option.some.injEq] at h; subst h
      obtain ⟨e1, e2⟩ := toInts_ok hl' hc
      exact ⟨hn, by rw [← e1]⟩
    · simp only [Option.some.injEq] at h; subst h
      exact ⟨_, hc, rfl⟩
  · rename_i zv _ hz
    split at h <;> try (cases h; done)
    rename_i c hc
    simp only [Option.some.injEq] at h; subst h
    exact ⟨_, key _ hz, cellOf_ok hc⟩
  · cases h

theorem newRow_ok {t : TypeId} {b : Body} {cells : Array Value} {c : Nat} {v : RV} {V : Value} (hb : BodyR ρ b cells.toList) (hv : RVR (ext ρ nx w.heap.size c) v V) :
    ∃ w', (newRow t cells).run P w = .ok ⟨w.heap.size, 0, none⟩ w' ∧ Out ρ hp nx w (.new (.row t false none b)) v V (ext ρ nx w.heap.size c) w' := by
  refine ⟨{ w with heap := w.heap.push (.cells cells t) }, ?_, hr.newOut hf (o := .cells cells t) ?_ ⟨rfl, rfl, rfl, rfl⟩ hv⟩
  · simp [newRow]
  · exact ⟨cells.toList, [], (0, 0), by simp, hb.mono (ext_sub hf _ _), fun _ => rfl, rfl⟩

theorem stAlloc_ok {t : TypeId} (h : stAlloc P nx t = some r) : SemR P ρ hp nx w (Instr.alloc t true (.tuple #[])) r := by
  unfold stAlloc at h
  split at h <;> try (cases h; done)
  rename_i z hz
  simp only [Option.some.injEq] at h; subst h
  obtain ⟨zv, h1, h2⟩ := zeroAV_ok (w := w) hz
  obtain ⟨w', h3, h4⟩ := newRow_ok (P := P) hr hf (c := 0) (t := t) (v := .one (.c (.ptr nx 0))) (V := .pointer (some ⟨w.heap.size, 0, none⟩)) (bodyFor_ok (P := P) (t := t) h2) ⟨w.heap.size, 0, by simp [ext], rfl⟩
  exact ⟨_, w', _, by simp [Instr.alloc, h1, newVar, h3], h4⟩

theorem stBox_ok {t : TypeId} {x : Operand} (h : stBox P ev nx t x = some r) (hx : EvR ρ ev va x) : SemR P ρ hp nx w (Instr.box t (va x)) r := by
  unfold stBox at h
  split at h <;> try (cases h; done)
  rename_i v hv
  simp only [Option.some.injEq] at h; subst h
  have h2 : AVR ρ v (va x) := hx _ hv
  obtain ⟨w', h3, h4⟩ := newRow_ok (P := P) hr hf (c := 0) (t := t) (v := .one (.c (.ptr nx 0))) (V := .pointer (some ⟨w.heap.size, 0, none⟩)) (bodyFor_ok (P := P) (t := t) h2) ⟨w.heap.size, 0, by simp [ext], rfl⟩
  exact ⟨_, w', _, by simp [Instr.box, newVar, h3], h4⟩

theorem stArr_ok {t : TypeId} {x : Operand} (h : stArr P ev t x = some r) (hx : EvR ρ ev va x) : SemR P ρ hp nx w (Instr.arrayAt t (va x)) r := by
  unfold stArr at h
  split at h <;> try (cases h; done)
  rename_i c hc
  split at h <;> try (cases h; done)
  rename_i n e hu
  split at h <;> try (cases h; done)
  rename_i ti hti
  have e := hx _ hc
  split at h <;> try (cases h; done)
  rename_i nm off len hs
  split at h <;> try (cases h; done)
  rename_i hlt
  unfold sliceParts at hs
  split at hs <;> try (cases hs; done)
  · simp only [Option.some.injEq, Prod.mk.injEq] at hs
    obtain ⟨rfl, rfl, rfl⟩ := hs
    obtain ⟨b, c, e1, e2⟩ := e
    refine SemR.quiet hr hf h (V := .pointer (some ⟨b, _, none⟩)) ?_ ⟨b, c, e1, rfl⟩
    simp [Instr.arrayAt, run_underlying hu, e2, hlt]
  · split at hs <;> try (cases hs; done)
    rename_i hsz
    subst hsz
    simp only [Option.some.injEq, Prod.mk.injEq] at hs
    obtain ⟨rfl, rfl, rfl⟩ := hs
    obtain ⟨b, c, e1, _, e2⟩ := e
    refine SemR.quiet hr hf h (V := .pointer (some ⟨b, _, none⟩)) ?_ ⟨b, c, e1, rfl⟩
    simp [Instr.arrayAt, run_underlying hu, e2, hlt]

omit hr hf in
theorem evl_ok : ∀ {l : List Operand} {vs : List RV}, evl ev l = some vs → (∀ x ∈ l, EvR ρ ev va x) → vs.length = l.length ∧ ∀ (i : Nat) (v : RV), vs[i]? = some v → ∃ x : Operand, l[i]? = some x ∧ RVR ρ v (va x)
  | [], vs, h, _ => by simp [evl] at h; subst h; simp
  | x :: l, vs, h, hx => by
    simp only [evl] at h
    split at h <;> try (cases h; done)
    rename_i v vs' h1 h2
    simp only [Option.some.injEq] at h; subst h
    obtain ⟨e1, e2⟩ := evl_ok h2 fun y hy => hx y (List.mem_cons_of_mem _ hy)
    refine ⟨by simp [e1], fun i u hu => ?_⟩
    cases i with
    | zero => simp at hu; subst hu; exact ⟨x, rfl, hx x (by simp) _ h1⟩
    | succ i => simp at hu; simpa using e2 i u hu

theorem stMakeMap_ok {t : TypeId} {ro : Option Operand} (h : stMakeMap nx ro = some r) : SemR P ρ hp nx w (Instr.makeMap t (ro.map va)) r := by
  unfold stMakeMap at h
  split at h <;> try (cases h; done)
  simp only [Option.some.injEq] at h; subst h
  refine ⟨.map (some w.heap.size), { w with heap := w.heap.push (.map #[] 0) }, ext ρ nx w.heap.size 0, by simp [Instr.makeMap], hr.newOut hf (o := .map #[] 0) ?_ ⟨rfl, rfl, rfl, rfl⟩ ⟨w.heap.size, 0, by simp [ext], rfl⟩⟩
  exact ⟨#[], 0, rfl, rfl⟩

omit hr hf in
theorem capsOf_ok : ∀ {l : List Operand} {vs : List RV} {cs : List (Nat × Nat)}, evl ev l = some vs → capsOf vs = some cs → (∀ x ∈ l, EvR ρ ev va x) → CapsR ρ cs (l.map va)
  | [], vs, cs, h, hc, _ => by simp [evl] at h; subst h; simp [capsOf] at hc; subst hc; rfl
  | x :: l, vs, cs, h, hc, hx => by
    simp only [evl] at h
    split at h <;> try (cases h; done)
    rename_i v vs' h1 h2
    simp only [Option.some.injEq] at h; subst h
    unfold capsOf at hc
    split at hc <;> try (cases hc; done)
    · rename_i heq; cases heq
    · rename_i nm off r' heq
      simp only [List.cons.injEq] at heq
      obtain ⟨rfl, rfl⟩ := heq
      split at hc <;> try (cases hc; done)
      rename_i cs' hcs
      simp only [Option.some.injEq] at hc; subst hc
      obtain ⟨b, c, e1, e2⟩ := hx x (by simp) _ h1
      exact ⟨b, c, _, e1, capsOf_ok h2 hcs fun y hy => hx y (List.mem_cons_of_mem _ hy), by simp [e2]⟩

theorem stFunc_ok {fn : Fn} {first caps : Array Operand} (h : stFunc ev fn first caps = some r) (hx : ∀ x ∈ caps.toList, EvR ρ ev va x) : SemR P ρ hp nx w (Instr.makeFunc fn (first.map va) (caps.map va)) r := by
  unfold stFunc at h
  split at h <;> try (cases h; done)
  rename_i f
  split at h <;> try (cases h; done)
  rename_i hfirst
  split at h <;> try (cases h; done)
  rename_i l hl
  split at h <;> try (cases h; done)
  rename_i cs hcs
  have e : first = #[] := by cases first; simp_all
  subst e
  refine SemR.quiet hr hf h (V := .func (.func f) #[] (caps.map va)) (by simp [Instr.makeFunc]) ⟨_, capsOf_ok hl hcs hx, ?_⟩
  rw [← Array.toList_map]

end ops
end Go.Sx
