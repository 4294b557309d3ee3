/-
  Parts of the executor Sx over the model's code (any program), or of this seat's walks: words and proofs that the row's text uses.
-/
import Derived.Test.YtfceckiklfkjkaaGreatSxB
import Derived.MapKept
import Derived.IntWalk
import Derived.Laws.Append
import Derived.Laws.AppendOwn
namespace Go.Sx
variable {P : Program} {ρ : Rho} {w : World} {hp : Hp} {nx : Nat}

/-- a run, and what the executor says of it -/
def SemR (P : Program) (ρ : Rho) (hp : Hp) (nx : Nat) (w : World) (s : Sem Value) (r : Res) : Prop :=
  ∃ V w' ρ', s.run P w = .ok V w' ∧ Out ρ hp nx w r.u r.v V ρ' w'

theorem SemR.q {s : Sem Value} {v : RV} {nd : List Nat} {fz : Bool} {V : Value} (hr : HRel ρ hp w) (hf : Fresh ρ nx) (h : s.run P w = .ok V w) (hv : RVR ρ v V) : SemR P ρ hp nx w s ⟨v, .none, nd, fz⟩ :=
  ⟨V, w, ρ, h, Out.quiet hv hr hf⟩

theorem SemR.quiet {s : Sem Value} {v : AV} {r : Res} {V : Value} (hr : HRel ρ hp w) (hf : Fresh ρ nx) (h : quiet v = some r) (hs : s.run P w = .ok V w) (hv : AVR ρ v V) : SemR P ρ hp nx w s r := by
  simp only [Sx.quiet, Option.some.injEq] at h
  subst h
  exact SemR.q hr hf hs hv

theorem qOpt_ok {x : Option AV} {r : Res} (h : qOpt x = some r) : ∃ v, x = some v ∧ quiet v = some r := by
  unfold qOpt at h
  split at h
  · exact ⟨_, rfl, h⟩
  · cases h

theorem cOpt_ok {x : Option Cell} {r : Res} (h : cOpt x = some r) : ∃ v, x = some v ∧ quiet (.c v) = some r := by
  unfold cOpt at h
  split at h
  · exact ⟨_, rfl, h⟩
  · cases h

/-- what operands are -/
def EvR (ρ : Rho) (ev : Ev) (va : Operand → Value) (x : Operand) : Prop := ∀ v, ev x = some v → RVR ρ v (va x)

section ops
variable {ev : Ev} {va : Operand → Value} {r : Res} (hr : HRel ρ hp w) (hf : Fresh ρ nx)
include hr hf

theorem stMove_ok {x : Operand} (h : stMove ev x = some r) (hx : EvR ρ ev va x) : SemR P ρ hp nx w (pure (va x)) r := by
  unfold stMove at h
  split at h
  · rename_i v hv
    simp only [Option.some.injEq] at h; subst h
    exact SemR.q hr hf rfl (hx v hv)
  · cases h

theorem stPick_ok {c a b : Operand} (h : stPick ev c a b = some r) (hc : EvR ρ ev va c) (ha : EvR ρ ev va a) (hb : EvR ρ ev va b) :
    SemR P ρ hp nx w (do pure (if ← asBool (va c) then va a else va b)) r := by
  unfold stPick at h
  split at h <;> try (cases h; done)
  rename_i t ht
  split at h <;> try (cases h; done)
  rename_i x hx
  split at h <;> try (cases h; done)
  rename_i y hy
  have h1 := hc _ ht
  have h2 := ha _ hx
  have h3 := hb _ hy
  simp only [RVR, AVR, CR] at h1
  unfold pickV at h
  split at h
  · rename_i p q
    simp only [RVR, AVR, CR] at h2 h3
    refine SemR.quiet hr hf h (V := .bool (if t then p else q)) ?_ rfl
    rw [h1, h2, h3]
    cases t <;> simp [asBool]
  · split at h
    · simp only [Option.some.injEq] at h; subst h
      exact SemR.q hr hf (by rw [h1]; simp [asBool]) h2
    · simp only [Option.some.injEq] at h; subst h
      exact SemR.q hr hf (by rw [h1]; simp [asBool]) h3

theorem stNil_ok {x : Operand} {o : Oper} (ho : o.op = .nilCheck x) (h : stNil ev x = some r) (hx : EvR ρ ev va x) : ∃ V w' ρ', (execOp va o).run P w = .ok (.value V) w' ∧ Out ρ hp nx w r.u r.v V ρ' w' := by
  unfold stNil at h
  split at h <;> try (cases h; done)
  · rename_i nm off hv
    have h1 := hx _ hv
    simp only [quiet, Option.some.injEq] at h; subst h
    have h1' := h1
    simp only [RVR, AVR, CR] at h1
    obtain ⟨b, c, e, h1⟩ := h1
    exact ⟨_, w, ρ, by simp only [execOp, ho, h1]; rfl, Out.quiet (by rw [← h1]; exact h1') hr hf⟩
  · rename_i f cs hv
    have h1 := hx _ hv
    simp only [quiet, Option.some.injEq] at h; subst h
    have h1' := h1
    simp only [RVR, AVR, CR] at h1
    obtain ⟨us, vs, e0, e, h1⟩ := h1
    exact ⟨_, w, ρ, by simp only [execOp, ho, h1]; rfl, Out.quiet (by rw [← h1]; exact h1') hr hf⟩

theorem stBin_ok {op : BinOp} {t : TypeId} {x y : Operand} (h : stBin P ev op t x y = some r) (hx : EvR ρ ev va x) (hy : EvR ρ ev va y) (ox oy : Operand) :
    SemR P ρ hp nx w (do eqGuard op t ox oy (va x) (va y); binOp op t (va x) (va y)) r := by
  unfold stBin at h
  split at h <;> try (cases h; done)
  rename_i a ha
  split at h <;> try (cases h; done)
  rename_i b hb
  obtain ⟨v, hv, hq⟩ := qOpt_ok h
  obtain ⟨V, h1, h2⟩ := run_binRes (w := w) (P := P) op t a b v hv (hx _ ha) (hy _ hb) ox oy
  exact SemR.quiet hr hf hq h2 h1

theorem stUn_ok {op : UnOp} {x : Operand} (h : stUn ev op x = some r) (hx : EvR ρ ev va x) : SemR P ρ hp nx w (Op.unary op (va x)) r := by
  unfold stUn at h
  split at h <;> try (cases h; done)
  rename_i a ha
  obtain ⟨v, hv, hq⟩ := qOpt_ok h
  obtain ⟨V, h1, h2⟩ := run_unRes (w := w) (P := P) op a v hv (hx _ ha)
  exact SemR.quiet hr hf hq h2 h1

theorem stConv_ok {src dst : TypeId} {x : Operand} (h : stConv P ev src dst x = some r) (hx : EvR ρ ev va x) : SemR P ρ hp nx w (convert src dst (va x)) r := by
  unfold stConv at h
  split at h <;> try (cases h; done)
  rename_i k n hv
  split at h <;> try (cases h; done)
  rename_i k1 h1
  split at h <;> try (cases h; done)
  rename_i k2 h2
  have e := hx _ hv
  simp only [RVR, AVR, CR] at e
  refine SemR.quiet hr hf h (V := .int k2 (k2.wrap n)) ?_ rfl
  simp [convert, run_underlying h1, run_underlying h2, e, Conv.intToInt]

omit hr hf in
theorem CsR.recC : ∀ (ks : List IntKind) (l : List Int) (j : Nat), CsR ρ (recC ks l j) ((ks.zipIdx j).map fun p => Value.int p.1 (l.getD p.2 0))
  | [], _, _ => rfl
  | k :: ks, l, j => ⟨_, _, rfl, CsR.recC ks l (j + 1), by simp [List.zipIdx_cons]⟩
omit hr hf in
theorem cyc_seg {ks : List IntKind} {l : List Int} {j : Nat} (h0 : j % ks.length = 0) (h1 : j + ks.length ≤ l.length) : ((cyc ks l).drop j).take ks.length = (ks.zipIdx j).map fun p => Value.int p.1 (l.getD p.2 0) := by
  apply List.ext_getElem
  · simp [cyc]; omega
  · intro i a1 a2
    have hi : i < ks.length := by simpa using a2
    have hm : (j + i) % ks.length = i := by
      rw [Nat.add_mod, h0, Nat.zero_add, Nat.mod_mod, Nat.mod_eq_of_lt hi]
    simp [cyc, hm, List.getD, List.getElem?_eq_getElem hi, List.getElem?_eq_getElem (show j + i < l.length by omega)]
theorem stLoad_ok {t : TypeId} {a : Operand} (h : stLoad P ev hp t a = some r) (hx : EvR ρ ev va a) : SemR P ρ hp nx w (Instr.loadAt t (va a)) r := by
  unfold stLoad at h
  split at h <;> try (cases h; done)
  rename_i nm off hv
  split at h <;> try (cases h; done)
  rename_i k hk
  split at h
  · rename_i t' ro opn b hrow
    split at h <;> try (cases h; done)
    rename_i v hg
    simp only [Option.some.injEq] at h; subst h
    have e := hx _ hv
    simp only [RVR, AVR, CR] at e
    obtain ⟨bl, c, e1, e2⟩ := e
    unfold getRow at hrow
    split at hrow <;> try (cases hrow; done)
    rename_i hblk
    simp only [Option.some.injEq, Prod.mk.injEq] at hrow
    obtain ⟨rfl, rfl, rfl, rfl⟩ := hrow
    obtain ⟨b', c', o, g1, g2, g3⟩ := hr.ok _ _ hblk
    rw [e1] at g1
    simp only [Option.some.injEq, Prod.mk.injEq] at g1
    obtain ⟨rfl, rfl⟩ := g1
    obtain ⟨vs, tail, fr, rfl, q1, q2, q3⟩ := g3
    obtain ⟨V, p1, p2⟩ := run_loadVar' (P := P) g2 hk hg rfl q1
    refine SemR.q hr hf (V := V) ?_ p1
    simp [Instr.loadAt, Instr.sureAddr, e2, p2]
  · rename_i hrow
    split at h <;> try (cases h; done)
    rename_i v hg
    simp only [Option.some.injEq] at h; subst h
    have e := hx _ hv
    simp only [RVR, AVR, CR] at e
    obtain ⟨bl, c, e1, e2⟩ := e
    unfold recGet at hg
    split at hg <;> try (cases hg; done)
    rename_i o ks l m hblk
    split at hg <;> try (cases hg; done)
    rename_i hp'
    obtain ⟨p0, p1, p2, p3⟩ := hp'
    simp only [Option.some.injEq] at hg; subst hg
    obtain ⟨b', c', ob, g1, g2, g3⟩ := hr.ok _ _ hblk
    rw [e1] at g1
    simp only [Option.some.injEq, Prod.mk.injEq] at g1
    obtain ⟨rfl, rfl⟩ := g1
    obtain ⟨cs, t', fr, rfl, q1, q2⟩ := g3
    obtain ⟨d, ti, k1, k2, k3, k4⟩ := tk_ok hk
    have hseg : (cs.toList.drop off).take m = (ks.zipIdx (off - o)).map fun p => Value.int p.1 (l.getD p.2 0) := by
      rw [← cyc_seg p1 (by omega), ← q2, List.drop_take, List.take_take, List.drop_drop, Nat.min_eq_left (by omega), p2, show o + (off - o) = off by omega]
    have hsz : cs.toList.length = cs.size := by simp
    refine SemR.q hr hf (V := .agg ((cs.toList.drop off).take m).toArray) ?_ ⟨_, CsR.recC ks l (off - o), by rw [hseg]⟩
    have hrow2 := run_loadRow (P := P) (t := t') (fr := fr) (w := w) (b := bl) (off := off) (arr := cs) g2 m (by omega)
    simp [Instr.loadAt, Instr.sureAddr, e2, loadVar, run_isAgg' k1, k3, run_sz k2, k4, hrow2]

theorem stLoadV_ok {t : TypeId} {a : Operand} (h : stLoadV P ev hp t a = some r) (hx : EvR ρ ev va a) : SemR P ρ hp nx w (Instr.loadAt t (va a)) r := by
  unfold stLoadV at h
  split at h
  · rename_i l i hv
    unfold vptrOf at hv
    split at hv <;> try (cases hv; done)
    rename_i hev
    simp only [Option.some.injEq, Prod.mk.injEq] at hv
    obtain ⟨rfl, rfl⟩ := hv
    unfold loadV at h
    split at h <;> try (cases h; done)
    rename_i hk
    split at h <;> try (cases h; done)
    rename_i l i _ hlt
    simp only [Option.some.injEq] at h; subst h
    have e := hx _ hev
    simp only [RVR, AVR, CR] at e
    obtain ⟨bl, e1, e2⟩ := e
    obtain ⟨cs, t', fr, g1, g2⟩ := (hr.fz bl _ e1).1
    rw [List.length_map] at g2
    have hcs : cs = (l.map (Value.int .i64) ++ cs.toList.drop l.length).toArray := by
      apply Array.toList_inj.1
      rw [← g2]
      simp
    rw [hcs] at g1
    obtain ⟨V, p1, p2⟩ := run_loadVar' (P := P) (b := bl) (off := i) (vs := l.map (Value.int .i64)) (ρ := ρ) (bd := .ints .i64 l l.length) (v := .c (.int .i64 (l.getD i 0))) g1 hk (by simp [Body.get, hlt]) rfl ⟨rfl, rfl⟩
    refine SemR.q hr hf (V := V) ?_ p1
    simp [Instr.loadAt, Instr.sureAddr, e2, p2]
  · exact stLoad_ok hr hf h hx

omit hf in
theorem row_ok {nm : Nat} {t : TypeId} {ro : Bool} {opn : Option Nat} {b : Body} (hrow : getRow hp nm = some (t, ro, opn, b)) :
    hp nm = some (.row t ro opn b) ∧ ∃ bl c vs tail fr, ρ nm = some (bl, c) ∧ w.heap[bl]? = some (.cells (vs ++ tail).toArray t fr) ∧ BodyR ρ b vs ∧ (ro = false → fr = (0, 0)) ∧ OpnR opn c (vs ++ tail).length tail := by
  unfold getRow at hrow
  split at hrow <;> try (cases hrow; done)
  rename_i hblk
  simp only [Option.some.injEq, Prod.mk.injEq] at hrow
  obtain ⟨rfl, rfl, rfl, rfl⟩ := hrow
  obtain ⟨b', c', o, g1, g2, g3⟩ := hr.ok _ _ hblk
  obtain ⟨vs, tail, fr, rfl, q1, q2, q3⟩ := g3
  exact ⟨hblk, b', c', vs, tail, fr, g1, g2, q1, q2, q3⟩

/-- cells laid into a named block -/
theorem wrRow {nm bl c : Nat} {t : TypeId} {opn : Option Nat} {b b' : Body} {vs tail us : List Value} {off : Nat} {v : RV} {V : Value}
    (hblk : hp nm = some (.row t false opn b)) (e1 : ρ nm = some (bl, c)) (g2 : w.heap[bl]? = some (.cells (vs ++ tail).toArray t (0, 0)))
    (q3 : OpnR opn c (vs ++ tail).length tail)
    (hl : off + us.length ≤ vs.length) (h1 : ∀ u ∈ us, u.oneCell' = true) (hb : BodyR ρ b' (over vs off us)) (hv : RVR ρ v V) :
    ∃ w', (storeCells ⟨bl, off, none⟩ us).run P w = .ok () w' ∧ Out ρ hp nx w (.wr nm (.row t false opn b')) v V ρ w' := by
  obtain ⟨w', k1, k2⟩ := run_storeRow (P := P) g2 us hl h1
  refine ⟨w', k1, hr.wrOut hf hblk rfl e1 (o := _) ?_ k2 hv⟩
  refine ⟨_, tail, _, rfl, hb, fun _ => rfl, ?_⟩
  simp only [List.length_append, over_length _ _ _ hl] at q3 ⊢
  exact q3

theorem stStore_ok {t : TypeId} {a x : Operand} (h : stStore P ev hp t a x = some r) (ha : EvR ρ ev va a) (hx : EvR ρ ev va x) :
    ∃ w' ρ', (Instr.storeAt t (va a) (va x)).run P w = .ok () w' ∧ Out ρ hp nx w r.u r.v undef ρ' w' := by
  unfold stStore at h
  split at h <;> try (cases h; done)
  rename_i nm off hv
  split at h <;> try (cases h; done)
  rename_i v hvx
  split at h <;> try (cases h; done)
  rename_i ti hti
  split at h <;> try (cases h; done)
  rename_i hsz
  split at h <;> try (cases h; done)
  rename_i u hu
  simp only [Option.some.injEq] at h; subst h
  unfold setAt at hu
  split at hu <;> try (cases hu; done)
  rename_i t' opn b hrow
  split at hu <;> try (cases hu; done)
  rename_i b' hset
  simp only [Option.some.injEq] at hu; subst hu
  obtain ⟨hblk, bl, c, vs, tail, fr, e1, g2, q1, q2, q3⟩ := row_ok hr hrow
  have e := ha _ hv
  simp only [RVR, AVR, CR] at e
  obtain ⟨bl', c', e1', e2⟩ := e
  rw [e1] at e1'
  simp only [Option.some.injEq, Prod.mk.injEq] at e1'
  obtain ⟨rfl, rfl⟩ := e1'
  have hX : AVR ρ v (va x) := hx _ hvx
  obtain ⟨k1, k2⟩ := Body.set_ok hset q1 hX
  obtain ⟨c1, c2, c3⟩ := hX.cells
  have := q2 rfl
  subst this
  obtain ⟨w', p1, p2⟩ := wrRow (P := P) hr hf (v := und) (V := undef) hblk e1 g2 q3 k1 (c2.one) k2 ⟨[], rfl, rfl⟩
  refine ⟨w', ρ, ?_, p2⟩
  simp only [Instr.storeAt, Instr.sureAddr, e2, storeVar, Sem.run_bind, Sem.run_pure, Result.andThen_ok, run_sz hti]
  rw [if_neg (by omega)]
  exact p1

omit hr hf in
theorem zeroAV_ok {t : TypeId} {z : AV} (h : zeroAV P t = some z) : ∃ zv, (zeroValue t).run P w = .ok zv w ∧ AVR ρ z zv := by
  unfold zeroAV at h
  split at h <;> try (cases h; done)
  rename_i k hk
  split at h <;> try (cases h; done)
  rename_i i hi
  have key : ∀ zv, i.zero = some zv → (zeroValue t).run P w = .ok zv w := fun zv hz => by simp [zeroValue, run_tInfo hi, hz]
  have cs_ok : ∀ (l : List Value) (m : List Cell), cellsOf l = some m → CsR ρ m l := by
    intro l
    induction l with
    | nil => intro m hm; simp [cellsOf] at hm; subst hm; rfl
    | cons v vs ih =>
      intro m hm
      simp only [cellsOf] at hm
      split at hm <;> try (cases hm; done)
      rename_i c cs h1 h2
      simp only [Option.some.injEq] at hm; subst hm
      exact ⟨v, vs, cellOf_ok h1, ih _ h2, rfl⟩
  split at h
  · rename_i cs hz
    refine ⟨_, key _ hz, ?_⟩
    unfold zeroOf at h
    split at h <;> try (cases h; done)
    rename_i l hl
    have hc := cs_ok _ _ hl
    split at h <;> try (cases h; done)
    · split at h <;> try (cases h; done)
      rename_i l' hl'
      split at h <;> try (cases h; done)
      rename_i hn
      simp only [Option.some.injEq] at h; subst h
      obtain ⟨e1, e2⟩ := toInts_ok hl' hc
      exact ⟨hn, by rw [← e1]⟩
    · simp only [Option.some.injEq] at h; subst h
      exact ⟨_, hc, rfl⟩
  · rename_i zv _ hz
    split at h <;> try (cases h; done)
    rename_i c hc
    simp only [Option.some.injEq] at h; subst h
    exact ⟨_, key _ hz, cellOf_ok hc⟩
  · cases h

theorem newRow_ok {t : TypeId} {b : Body} {cells : Array Value} {c : Nat} {v : RV} {V : Value} (hb : BodyR ρ b cells.toList) (hv : RVR (ext ρ nx w.heap.size c) v V) :
    ∃ w', (newRow t cells).run P w = .ok ⟨w.heap.size, 0, none⟩ w' ∧ Out ρ hp nx w (.new (.row t false none b)) v V (ext ρ nx w.heap.size c) w' := by
  refine ⟨{ w with heap := w.heap.push (.cells cells t) }, ?_, hr.newOut hf (o := .cells cells t) ?_ ⟨rfl, rfl, rfl, rfl⟩ hv⟩
  · simp [newRow]
  · exact ⟨cells.toList, [], (0, 0), by simp, hb.mono (ext_sub hf _ _), fun _ => rfl, rfl⟩

theorem stAlloc_ok {t : TypeId} (h : stAlloc P nx t = some r) : SemR P ρ hp nx w (Instr.alloc t true (.tuple #[])) r := by
  unfold stAlloc at h
  split at h <;> try (cases h; done)
  rename_i z hz
  simp only [Option.some.injEq] at h; subst h
  obtain ⟨zv, h1, h2⟩ := zeroAV_ok (w := w) hz
  obtain ⟨w', h3, h4⟩ := newRow_ok (P := P) hr hf (c := 0) (t := t) (v := .one (.c (.ptr nx 0))) (V := .pointer (some ⟨w.heap.size, 0, none⟩)) (bodyFor_ok (P := P) (t := t) h2) ⟨w.heap.size, 0, by simp [ext], rfl⟩
  exact ⟨_, w', _, by simp [Instr.alloc, h1, newVar, h3], h4⟩

theorem stBox_ok {t : TypeId} {x : Operand} (h : stBox P ev nx t x = some r) (hx : EvR ρ ev va x) : SemR P ρ hp nx w (Instr.box t (va x)) r := by
  unfold stBox at h
  split at h <;> try (cases h; done)
  rename_i v hv
  simp only [Option.some.injEq] at h; subst h
  have h2 : AVR ρ v (va x) := hx _ hv
  obtain ⟨w', h3, h4⟩ := newRow_ok (P := P) hr hf (c := 0) (t := t) (v := .one (.c (.ptr nx 0))) (V := .pointer (some ⟨w.heap.size, 0, none⟩)) (bodyFor_ok (P := P) (t := t) h2) ⟨w.heap.size, 0, by simp [ext], rfl⟩
  exact ⟨_, w', _, by simp [Instr.box, newVar, h3], h4⟩

theorem stArr_ok {t : TypeId} {x : Operand} (h : stArr P ev t x = some r) (hx : EvR ρ ev va x) : SemR P ρ hp nx w (Instr.arrayAt t (va x)) r := by
  unfold stArr at h
  split at h <;> try (cases h; done)
  rename_i c hc
  split at h <;> try (cases h; done)
  rename_i n e hu
  split at h <;> try (cases h; done)
  rename_i ti hti
  have e := hx _ hc
  split at h <;> try (cases h; done)
  rename_i nm off len hs
  split at h <;> try (cases h; done)
  rename_i hlt
  unfold sliceParts at hs
  split at hs <;> try (cases hs; done)
  · simp only [Option.some.injEq, Prod.mk.injEq] at hs
    obtain ⟨rfl, rfl, rfl⟩ := hs
    obtain ⟨b, c, e1, e2⟩ := e
    refine SemR.quiet hr hf h (V := .pointer (some ⟨b, _, none⟩)) ?_ ⟨b, c, e1, rfl⟩
    simp [Instr.arrayAt, run_underlying hu, e2, hlt]
  · split at hs
    rotate_left
    · split at hs <;> cases hs
    rename_i hsz
    obtain ⟨hsz, hl0⟩ := hsz
    subst hsz
    simp only [Option.some.injEq, Prod.mk.injEq] at hs
    obtain ⟨rfl, rfl, rfl⟩ := hs
    obtain ⟨b, c, ao, e1, e0, e3, e2⟩ := e
    obtain rfl := e3.resolve_right (by omega)
    refine SemR.quiet hr hf h (V := .pointer (some ⟨b, _, none⟩)) ?_ ⟨b, c, e1, rfl⟩
    simp [Instr.arrayAt, run_underlying hu, e2, hlt]

omit hr hf in
theorem evl_ok : ∀ {l : List Operand} {vs : List RV}, evl ev l = some vs → (∀ x ∈ l, EvR ρ ev va x) → vs.length = l.length ∧ ∀ (i : Nat) (v : RV), vs[i]? = some v → ∃ x : Operand, l[i]? = some x ∧ RVR ρ v (va x)
  | [], vs, h, _ => by simp [evl] at h; subst h; simp
  | x :: l, vs, h, hx => by
    simp only [evl] at h
    split at h <;> try (cases h; done)
    rename_i v vs' h1 h2
    simp only [Option.some.injEq] at h; subst h
    obtain ⟨e1, e2⟩ := evl_ok h2 fun y hy => hx y (List.mem_cons_of_mem _ hy)
    refine ⟨by simp [e1], fun i u hu => ?_⟩
    cases i with
    | zero => simp at hu; subst hu; exact ⟨x, rfl, hx x (by simp) _ h1⟩
    | succ i => simp at hu; simpa using e2 i u hu

theorem stMakeMap_ok {t : TypeId} {ro : Option Operand} (h : stMakeMap nx ro = some r) : SemR P ρ hp nx w (Instr.makeMap t (ro.map va)) r := by
  unfold stMakeMap at h
  split at h <;> try (cases h; done)
  simp only [Option.some.injEq] at h; subst h
  refine ⟨.map (some w.heap.size), { w with heap := w.heap.push (.map #[] 0) }, ext ρ nx w.heap.size 0, by simp [Instr.makeMap], hr.newOut hf (o := .map #[] 0) ?_ ⟨rfl, rfl, rfl, rfl⟩ ⟨w.heap.size, 0, by simp [ext], rfl⟩⟩
  exact ⟨#[], 0, rfl, rfl, MapKept.stamped_empty 0⟩

omit hr hf in
theorem capsOf_ok : ∀ {l : List Operand} {vs : List RV} {cs : List (Nat × Nat)}, evl ev l = some vs → capsOf vs = some cs → (∀ x ∈ l, EvR ρ ev va x) → CapsR ρ cs (l.map va)
  | [], vs, cs, h, hc, _ => by simp [evl] at h; subst h; simp [capsOf] at hc; subst hc; rfl
  | x :: l, vs, cs, h, hc, hx => by
    simp only [evl] at h
    split at h <;> try (cases h; done)
    rename_i v vs' h1 h2
    simp only [Option.some.injEq] at h; subst h
    unfold capsOf at hc
    split at hc <;> try (cases hc; done)
    · rename_i heq; cases heq
    · rename_i nm off r' heq
      simp only [List.cons.injEq] at heq
      obtain ⟨rfl, rfl⟩ := heq
      split at hc <;> try (cases hc; done)
      rename_i cs' hcs
      simp only [Option.some.injEq] at hc; subst hc
      obtain ⟨b, c, e1, e2⟩ := hx x (by simp) _ h1
      exact ⟨b, c, _, e1, capsOf_ok h2 hcs fun y hy => hx y (List.mem_cons_of_mem _ hy), by simp [e2]⟩

theorem stFunc_ok {fn : Fn} {first caps : Array Operand} (h : stFunc ev fn first caps = some r) (hx0 : ∀ x ∈ first.toList, EvR ρ ev va x) (hx : ∀ x ∈ caps.toList, EvR ρ ev va x) : SemR P ρ hp nx w (Instr.makeFunc fn (first.map va) (caps.map va)) r := by
  unfold stFunc at h
  split at h <;> try (cases h; done)
  rename_i f
  split at h <;> try (cases h; done)
  rename_i fl hfl
  split at h <;> try (cases h; done)
  rename_i fs hfs
  split at h <;> try (cases h; done)
  rename_i l hl
  split at h <;> try (cases h; done)
  rename_i cs hcs
  refine SemR.quiet hr hf h (V := .func (.func f) (first.map va) (caps.map va)) (by simp [Instr.makeFunc]) ⟨_, _, capsOf_ok hfl hfs hx0, capsOf_ok hl hcs hx, ?_⟩
  rw [← Array.toList_map, ← Array.toList_map]

end ops
end Go.Sx

namespace Go.Sx
variable {P : Program} {ρ : Rho} {w : World} {hp : Hp} {nx : Nat}

section ops
variable {ev : Ev} {va : Operand → Value} {r : Res} (hr : HRel ρ hp w) (hf : Fresh ρ nx)

def OptR (ρ : Rho) (v : Option RV) (X : Option Value) : Prop :=
  match v with
  | none => X = none
  | some v => ∃ V, X = some V ∧ RVR ρ v V

theorem sbound_ok {x : Option RV} {lo hi d n : Nat} (h : sbound x lo hi d = some n) {X : Option Value} (hx : OptR ρ x X) :
    (X = none ∧ n = d) ∨ ∃ k, X = some (.int k (n : Int)) ∧ n ≤ hi := by
  unfold sbound at h
  split at h
  · simp only [Option.some.injEq] at h
    exact .inl ⟨hx, h.symm⟩
  · split at h
    · split at h <;> try (cases h; done)
      rename_i hc
      simp only [Option.some.injEq] at h; subst h
      obtain ⟨V, h1, h2⟩ := hx
      simp only [RVR, AVR, CR] at h2
      subst h2
      exact .inr ⟨_, h1, hc.2⟩
    · cases h
  · cases h

theorem run_bound (k : IntKind) (n y : Nat) (code : BoundsCode) (h : n ≤ y) : (Instr.sliceBound (.int k (n : Int)) y code).run P w = .ok n w := by
  simp [Instr.sliceBound, asIntOf]
  intro h'; omega

theorem run_bounds (b : Bool) (len cap h l : Nat) {lo hi : Option RV} {L H : Option Value} (h1 : sbound hi 0 cap len = some h) (h2 : sbound lo 0 h 0 = some l)
    (hL : OptR ρ lo L) (hH : OptR ρ hi H) :
    (Instr.sliceBounds b len cap L H none).run P w = .ok (l, h, cap) w := by
  rcases sbound_ok h1 hH with ⟨rfl, rfl⟩ | ⟨k, rfl, h3⟩ <;> rcases sbound_ok h2 hL with ⟨rfl, rfl⟩ | ⟨k', rfl, h4⟩
  · simp [Instr.sliceBounds]
  · simp [Instr.sliceBounds, run_bound _ _ _ _ h4]
  · simp [Instr.sliceBounds, run_bound _ _ _ _ h3]
  · simp [Instr.sliceBounds, run_bound _ _ _ _ h3, run_bound _ _ _ _ h4]

theorem optEv_ok {x : Option Operand} {v : Option RV} (h : optEv ev x = some v) (hx : ∀ y, x = some y → EvR ρ ev va y) : OptR ρ v (x.map va) := by
  unfold optEv at h
  split at h
  · simp only [Option.some.injEq] at h; subst h; rfl
  · split at h <;> try (cases h; done)
    rename_i y v' hv
    simp only [Option.some.injEq] at h; subst h
    exact ⟨_, rfl, hx _ rfl _ hv⟩

theorem if_add (m l : Nat) (b off s : Nat) : (if m = l then (⟨b, off, none⟩ : Addr) else (⟨b, off, none⟩ : Addr).add (l * s)) = ⟨b, if m = l then off else off + l * s, none⟩ := by
  split <;> simp [add_off]

/-- what slicing gives -/
theorem sliceCell_sl {s nm off len cap : Nat} {c : Cell} {lo hi : Option RV} (h : sliceCell s (.sl nm off len cap) lo hi = some c) {L H : Option Value}
    (hL : OptR ρ lo L) (hH : OptR ρ hi H) (b : Bool) {bl cc : Nat} (e : ρ nm = some (bl, cc)) :
    ∃ l h, (Instr.sliceBounds b len cap L H none).run P w = .ok (l, h, cap) w ∧
      CR ρ c (.slice (some (if cap = l then ⟨bl, off, none⟩ else (⟨bl, off, none⟩ : Addr).add (l * s))) (h - l) (cap - l)) := by
  simp only [sliceCell] at h
  split at h <;> try (cases h; done)
  rename_i hh h1
  split at h <;> try (cases h; done)
  rename_i l h2
  simp only [Option.some.injEq] at h; subst h
  exact ⟨l, hh, run_bounds b len cap hh l h1 h2 hL hH, bl, cc, e, by rw [if_add]⟩

theorem sbound_mono {x : Option RV} {hi hi' d n : Nat} (h : sbound x 0 hi d = some n) (hle : hi ≤ hi') : sbound x 0 hi' d = some n := by
  unfold sbound at h ⊢
  split at h
  · exact h
  · split at h
    · split at h <;> try (cases h; done)
      rename_i hc
      rw [if_pos ⟨hc.1, by omega⟩]; exact h
    · cases h
  · cases h

include hr hf

theorem slSl_ok {t e : TypeId} {x : Cell} {X : Value} (ht : P.underlying t = some (.slice e)) (hx : CR ρ x X) {lo hi : Option RV} (h : slSl P e x lo hi = some r) {L H : Option Value}
    (hL : OptR ρ lo L) (hH : OptR ρ hi H) :
    SemR P ρ hp nx w (Instr.slice t X L H none) r := by
  unfold slSl at h
  split at h <;> try (cases h; done)
  rename_i ti hti
  obtain ⟨c, hc, hq⟩ := cOpt_ok h
  cases x with
  | sl nm off len cap =>
    obtain ⟨bl, cc, e1, rfl⟩ := hx
    obtain ⟨l, hh, p1, p2⟩ := sliceCell_sl (P := P) (w := w) hc hL hH true e1
    refine SemR.quiet hr hf hq ?_ p2
    simp [Instr.slice, run_underlying ht, p1, run_sz hti]
    split <;> rfl
  | slu nm sz a len =>
    obtain ⟨bl, cc, ao, e1, e2, e3, rfl⟩ := hx
    simp only [sliceCell] at hc
    split at hc <;> try (cases hc; done)
    rename_i hh h1
    split at hc <;> try (cases hc; done)
    rename_i l h2
    split at hc <;> try (cases hc; done)
    rename_i hcond
    subst hcond
    simp only [Option.some.injEq] at hc; subst hc
    have h1' := sbound_mono h1 (show len ≤ cc - a by omega)
    have p1 := run_bounds (P := P) (w := w) true len (cc - a) hh l h1' h2 hL hH
    have hlh : l ≤ hh ∧ hh ≤ len := by
      rcases sbound_ok h1 hH with ⟨_, rfl⟩ | ⟨_, _, h3⟩ <;> rcases sbound_ok h2 hL with ⟨_, rfl⟩ | ⟨_, _, h4⟩ <;> omega
    by_cases hml : cc - a = l
    · refine SemR.quiet hr hf hq (V := .slice (some ⟨bl, ao, none⟩) (hh - l) (cc - a - l)) ?_ ⟨bl, cc, ao, e1, by omega, ?_, by rw [show cc - a - l = cc - (a + l) by omega]⟩
      · simp only [Instr.slice, Sem.run_bind, run_underlying ht, Result.andThen_ok, p1, run_sz hti, Sem.run_pure]
        rw [if_pos hml]
      · rcases e3 with e3 | e3
        · rcases Nat.eq_zero_or_pos l with h0 | h0
          · exact .inl (by rw [h0]; exact e3)
          · exact .inr ⟨by omega, by omega⟩
        · exact .inr ⟨by omega, by omega⟩
    · have e4 : ao = a * ti.size := by
        rcases e3 with e3 | e3
        · exact e3
        · omega
      subst e4
      refine SemR.quiet hr hf hq (V := .slice (some ⟨bl, (a + l) * ti.size, none⟩) (hh - l) (cc - a - l)) ?_ ⟨bl, cc, _, e1, by omega, .inl rfl, by rw [show cc - a - l = cc - (a + l) by omega]⟩
      simp only [Instr.slice, Sem.run_bind, run_underlying ht, Result.andThen_ok, p1, run_sz hti, Sem.run_pure]
      simp [hml, add_off, Nat.add_mul]
  | sl0 =>
    simp only [CR] at hx
    subst hx
    simp only [sliceCell] at hc
    split at hc <;> try (cases hc; done)
    rename_i hh h1
    split at hc <;> try (cases hc; done)
    rename_i l h2
    simp only [Option.some.injEq] at hc; subst hc
    have hh0 : hh = 0 := by rcases sbound_ok h1 hH with ⟨_, h⟩ | ⟨_, _, h⟩ <;> omega
    have hl0 : l = 0 := by rcases sbound_ok h2 hL with ⟨_, h⟩ | ⟨_, _, h⟩ <;> omega
    subst hh0 hl0
    have p1 := run_bounds (P := P) (w := w) true 0 0 0 0 h1 h2 hL hH
    refine SemR.quiet hr hf hq (V := .slice none 0 0) ?_ rfl
    simp [Instr.slice, run_underlying ht, p1, run_sz hti]
  | _ => simp [sliceCell] at hc

omit hr hf in
theorem isZero_ok {x : Operand} (h : isZero (ev x) = true) (hx : EvR ρ ev va x) : ∃ k, va x = .int k 0 := by
  unfold isZero at h
  split at h <;> try (cases h; done)
  rename_i k hv
  exact ⟨k, hx _ hv⟩
theorem stSlice_ok {t : TypeId} {x : Operand} {lo hi mx : Option Operand} (h : stSlice P ev t x lo hi mx = some r) (hx : EvR ρ ev va x) (hlo : ∀ y, lo = some y → EvR ρ ev va y) (hhi : ∀ y, hi = some y → EvR ρ ev va y) (hmx : ∀ y, mx = some y → EvR ρ ev va y) :
    SemR P ρ hp nx w (Instr.sliceAt t (va x) (lo.map va) (hi.map va) (mx.map va)) r := by
  unfold stSlice at h
  split at h
  · rename_i mx
    unfold st3 at h
    split at h <;> try (cases h; done)
    rename_i hi'
    split at h <;> try (cases h; done)
    rename_i hz
    split at h <;> try (cases h; done)
    rename_i c hc
    split at h <;> try (cases h; done)
    rename_i e hu
    split at h <;> try (cases h; done)
    rename_i ti hti
    obtain ⟨k1, z1⟩ := isZero_ok hz.1 (hhi hi' rfl)
    obtain ⟨k2, z2⟩ := isZero_ok hz.2 (hmx mx rfl)
    obtain ⟨c', hc', hq⟩ := cOpt_ok h
    have e1 : CR ρ c (va x) := hx _ hc
    have hrun : ∀ (A : Option Addr) (len cap : Nat), (Instr.sliceAt t (.slice A len cap) none (some (.int k1 0)) (some (.int k2 0))).run P w = .ok (.slice A 0 0) w := fun A len cap => by
      have b2 := run_bound (P := P) (w := w) k2 0 cap .slice3Acap (Nat.zero_le _)
      have b1 := run_bound (P := P) (w := w) k1 0 0 .slice3B (Nat.le_refl _)
      simp only [Int.natCast_zero, Int.ofNat_zero] at b1 b2
      simp [Instr.sliceAt, Instr.slice, Sem.run_bind, run_underlying hu, Result.andThen_ok, Instr.sliceBounds, b1, b2, Sem.run_pure, run_sz hti]
    have hout : ∀ A len cap, va x = .slice A len cap → CR ρ c' (.slice A 0 0) → SemR P ρ hp nx w (Instr.sliceAt t (va x) ((none : Option Operand).map va) ((some hi').map va) ((some mx).map va)) r := fun A len cap hv hcr => by
      rw [hv]
      simp only [Option.map_none, Option.map_some, z1, z2]
      exact SemR.quiet hr hf hq (hrun A len cap) hcr
    unfold zeroCut at hc'
    split at hc'
    · cases hc'
      simp only [CR] at e1
      exact hout _ _ _ e1 rfl
    · cases hc'
      obtain ⟨b, cc, g1, g2⟩ := e1
      exact hout _ _ _ g2 ⟨b, cc, g1, rfl⟩
    · split at hc' <;> try (cases hc'; done)
      rename_i ha
      cases hc'
      obtain ⟨b, cc, off, g1, g2, g3, g4⟩ := e1
      have hoff : off = 0 := by
        subst ha
        rcases g3 with g3 | g3
        · simpa using g3
        · omega
      subst hoff
      exact hout _ _ _ g4 ⟨b, cc, g1, rfl⟩
    · cases hc'
  split at h <;> try (cases h; done)
  rename_i lo' hlo'
  split at h <;> try (cases h; done)
  rename_i hi' hhi'
  have hL := optEv_ok hlo' hlo
  have hH := optEv_ok hhi' hhi
  split at h <;> try (cases h; done)
  rename_i c hc
  have e : CR ρ c (va x) := hx _ hc
  have arr : ∀ n e nm off, slArr P n e nm off lo' hi' = some r → (∃ bl cc, ρ nm = some (bl, cc) ∧ va x = .pointer (some ⟨bl, off, none⟩)) →
      ∃ ti l h bl, P.info? e = some ti ∧ (Instr.sliceBounds false n n (lo.map va) (hi.map va) none).run P w = .ok (l, h, n) w ∧ va x = .pointer (some ⟨bl, off, none⟩) ∧
        SemR P ρ hp nx w (pure (.slice (some (if n = l then ⟨bl, off, none⟩ else (⟨bl, off, none⟩ : Addr).add (l * ti.size))) (h - l) (n - l))) r := by
    intro n e nm off h ⟨bl, cc, e1, e2⟩
    unfold slArr at h
    split at h <;> try (cases h; done)
    rename_i ti hti
    obtain ⟨c', hc', hq⟩ := cOpt_ok h
    obtain ⟨l, hh, p1, p2⟩ := sliceCell_sl (P := P) (w := w) hc' hL hH false e1
    exact ⟨ti, l, hh, bl, hti, p1, e2, SemR.quiet hr hf hq rfl p2⟩
  split at h
  · rename_i n e' hu
    split at h <;> try (cases h; done)
    rename_i nm off
    obtain ⟨ti, l, hh, bl, h1, h2, h3, V, w', ρ', h4, h5⟩ := arr _ _ _ _ h e
    refine ⟨V, w', ρ', ?_, h5⟩
    rw [← h4, h3]
    simp only [Instr.sliceAt, Sem.run_bind, run_underlying hu, Result.andThen_ok, Instr.sureAddr, Sem.run_pure, Option.map_none, h2, run_sz h1]
  · rename_i e' hu
    obtain ⟨V, w', ρ', h4, h5⟩ := slSl_ok (P := P) hr hf hu e h hL hH
    refine ⟨V, w', ρ', ?_, h5⟩
    rw [← h4]
    simp [Instr.sliceAt, run_underlying hu]
  · rename_i arr' hu
    split at h <;> try (cases h; done)
    rename_i nm off
    split at h <;> try (cases h; done)
    rename_i n e' hu'
    obtain ⟨ti, l, hh, bl, h1, h2, h3, V, w', ρ', h4, h5⟩ := arr _ _ _ _ h e
    refine ⟨V, w', ρ', ?_, h5⟩
    rw [← h4, h3]
    simp only [Instr.sliceAt, Instr.slice, Sem.run_bind, run_underlying hu, Result.andThen_ok, asAddr, Sem.run_pure, Option.map_none, run_underlying hu', h2, run_sz h1]
  · rename_i hu
    split at h <;> try (cases h; done)
    rename_i st
    unfold slStr at h
    split at h <;> try (cases h; done)
    rename_i hh h1
    split at h <;> try (cases h; done)
    rename_i l h2
    simp only [CR] at e
    refine SemR.quiet hr hf h (V := .string (st.extract l hh)) ?_ rfl
    have p1 := run_bounds (P := P) (w := w) false st.size st.size hh l h1 h2 hL hH
    rw [e]
    simp only [Instr.sliceAt, Instr.slice, Sem.run_bind, run_underlying hu, Result.andThen_ok, Option.map_none, Option.isSome_none, Bool.false_eq_true, if_false, p1, Sem.run_pure]
  · cases h

theorem stFieldAddr_ok {s : TypeId} {x : Operand} {f : Nat} (h : stFieldAddr P ev s x f = some r) (hx : EvR ρ ev va x) : SemR P ρ hp nx w (Instr.fieldAt s (va x) f) r := by
  unfold stFieldAddr at h
  split at h <;> try (cases h; done)
  rename_i nm off hv
  split at h <;> try (cases h; done)
  rename_i fs hu
  split at h <;> try (cases h; done)
  rename_i fd hfd
  split at h <;> try (cases h; done)
  rename_i ti hti
  split at h <;> try (cases h; done)
  rename_i hsz
  obtain ⟨bl, cc, e1, e2⟩ := hx _ hv
  refine SemR.quiet hr hf h (V := .pointer (some ⟨bl, off + fd.offset, none⟩)) ?_ ⟨bl, cc, e1, rfl⟩
  simp [Instr.fieldAt, run_underlying hu, hfd, Instr.sureAddr, e2, fieldPlace, run_sz hti, hsz, add_off]

omit hr hf in
theorem idx_ok {i : Int} {len j : Nat} (h : idx i len = some j) : i = (j : Int) ∧ j < len := by
  unfold idx at h
  split at h
  · split at h <;> try (cases h; done)
    rename_i hc
    simp only [Option.some.injEq] at h; subst h
    exact ⟨rfl, hc⟩
  · cases h

theorem stIndexAddr_ok {t : TypeId} {x i : Operand} (h : stIndexAddr P ev t x i = some r) (hx : EvR ρ ev va x) (hi : EvR ρ ev va i) : SemR P ρ hp nx w (Instr.indexAt t (va x) (va i)) r := by
  unfold stIndexAddr at h
  split at h <;> try (cases h; done)
  rename_i k z hz
  have ez := hi _ hz
  simp only [RVR, AVR, CR] at ez
  split at h <;> try (cases h; done)
  rename_i c hc
  have e : CR ρ c (va x) := hx _ hc
  split at h
  · rename_i len e' hu
    split at h <;> try (cases h; done)
    unfold ixArr at h
    split at h <;> try (cases h; done)
    rename_i ti hti
    split at h <;> try (cases h; done)
    rename_i j hj
    obtain ⟨rfl, hlt⟩ := idx_ok hj
    obtain ⟨bl, cc, e1, e2⟩ := e
    refine SemR.quiet hr hf h (V := .pointer (some ⟨bl, _, none⟩)) ?_ ⟨bl, cc, e1, rfl⟩
    simp [Instr.indexAt, ez, asIntOf, run_underlying hu, e2, Instr.sureAddr, hlt, run_sz hti, add_off]
  · rename_i e' hu
    unfold ixSl at h
    split at h <;> try (cases h; done)
    rename_i ti hti
    split at h
    rotate_left
    · unfold ixV at h
      split at h <;> try (cases h; done)
      rename_i l
      split at h <;> try (cases h; done)
      rename_i hsz
      split at h <;> try (cases h; done)
      rename_i j hj
      obtain ⟨rfl, hlt⟩ := idx_ok hj
      rcases e with ⟨rfl, _⟩ | ⟨_, bl, cc, e1, e2⟩
      · simp at hlt
      · refine SemR.quiet hr hf h (V := .pointer (some ⟨bl, j, none⟩)) ?_ ⟨bl, e1, rfl⟩
        simp [Instr.indexAt, ez, asIntOf, run_underlying hu, e2, hlt, run_sz hti, add_off, hsz]
    rename_i nm off len hs
    split at h <;> try (cases h; done)
    rename_i j hj
    obtain ⟨rfl, hlt⟩ := idx_ok hj
    unfold sliceParts at hs
    split at hs <;> try (cases hs; done)
    · simp only [Option.some.injEq, Prod.mk.injEq] at hs
      obtain ⟨rfl, rfl, rfl⟩ := hs
      obtain ⟨bl, cc, e1, e2⟩ := e
      refine SemR.quiet hr hf h (V := .pointer (some ⟨bl, _, none⟩)) ?_ ⟨bl, cc, e1, rfl⟩
      simp [Instr.indexAt, ez, asIntOf, run_underlying hu, e2, hlt, run_sz hti, add_off]
    · split at hs
      rotate_left
      · split at hs <;> cases hs
      rename_i hsz
      obtain ⟨hsz, hl0⟩ := hsz
      subst hsz
      simp only [Option.some.injEq, Prod.mk.injEq] at hs
      obtain ⟨rfl, rfl, rfl⟩ := hs
      obtain ⟨bl, cc, ao, e1, e0, e3, e2⟩ := e
      obtain rfl := e3.resolve_right (by omega)
      refine SemR.quiet hr hf h (V := .pointer (some ⟨bl, _, none⟩)) ?_ ⟨bl, cc, e1, rfl⟩
      simp [Instr.indexAt, ez, asIntOf, run_underlying hu, e2, hlt, run_sz hti, add_off]
  · cases h

omit hr hf in
theorem rowBody_ok {v : AV} {V : Value} (h : AVR ρ v V) : BodyR ρ v.rowBody V.cells.toList := by
  obtain ⟨h1, h2, _⟩ := h.cells
  cases v with
  | c x => exact h2
  | agg l => exact h2
  | ints k l n => exact h1

omit hr hf in
/-- a part of a value -/
theorem run_partOf {t : TypeId} {k : TK} {b : Body} {off : Nat} {v : AV} (hk : tk P t = some k) (hg : b.get off k = some v) {cs : Array Value} (hb : BodyR ρ b cs.toList) : ∃ V, AVR ρ v V ∧ (part t cs off).run P w = .ok V w := by
  obtain ⟨d, i, h1, h2, h3⟩ := tk_ok hk
  have g := Body.get_ok hg hb
  unfold part
  simp only [Sem.run_bind, run_isAgg' h1, Result.andThen_ok]
  cases k with
  | sc =>
    obtain ⟨V, g1, g2⟩ := g
    refine ⟨V, g2, ?_⟩
    simp only at h3
    have g1' : cs[off]? = some V := by simpa using g1
    simp [h3, g1']
  | ints k n =>
    obtain ⟨g1, g2⟩ := g
    obtain ⟨h3, h4⟩ := h3
    refine ⟨_, g2, ?_⟩
    simp only [h3, if_true, Sem.run_bind, run_sz h2, Result.andThen_ok, h4, Sem.run_pure]
    congr 2
    rw [← Array.toArray_toList (xs := cs), List.extract_toArray, List.extract_eq_take_drop]
    simp
  | agg n =>
    obtain ⟨g1, g2⟩ := g
    obtain ⟨h3, h4⟩ := h3
    refine ⟨_, g2, ?_⟩
    simp only [h3, if_true, Sem.run_bind, run_sz h2, Result.andThen_ok, h4, Sem.run_pure]
    congr 2
    rw [← Array.toArray_toList (xs := cs), List.extract_toArray, List.extract_eq_take_drop]
    simp

omit hr hf in
theorem AVR.agg {v : AV} {V : Value} (h : AVR ρ v V) (hv : isAggV v = true) : ∃ cs, V = .agg cs ∧ V.cells = cs := by
  cases v with
  | c x => simp [isAggV] at hv
  | agg l => obtain ⟨vs, _, rfl⟩ := h; exact ⟨_, rfl, rfl⟩
  | ints k l n => obtain ⟨_, rfl⟩ := h; exact ⟨_, rfl, rfl⟩

end ops
end Go.Sx

namespace Go.Sx
variable {P : Program} {ρ : Rho} {w : World} {hp : Hp} {nx : Nat}

section ops
variable {ev : Ev} {va : Operand → Value} {r : Res} (hr : HRel ρ hp w) (hf : Fresh ρ nx)
include hr hf

theorem stField_ok {t : TypeId} {x : Operand} {f : Nat} (h : stField P ev t x f = some r) (hx : EvR ρ ev va x) : SemR P ρ hp nx w (Instr.field t (va x) f) r := by
  unfold stField at h
  split at h <;> try (cases h; done)
  rename_i v hv
  split at h <;> try (cases h; done)
  rename_i fs hu
  split at h <;> try (cases h; done)
  rename_i fd hfd
  split at h <;> try (cases h; done)
  rename_i k hk
  split at h <;> try (cases h; done)
  rename_i hag
  obtain ⟨u, hu', hq⟩ := qOpt_ok h
  have e : AVR ρ v (va x) := hx _ hv
  obtain ⟨cs, e1, e2⟩ := e.agg hag
  obtain ⟨_, c2, _⟩ := e.cells
  rw [e2] at c2
  obtain ⟨V, p1, p2⟩ := run_partOf (P := P) (w := w) hk hu' (cs := cs) c2
  refine SemR.quiet hr hf hq (V := V) ?_ p1
  simp [Instr.field, run_underlying hu, hfd, e1, asAgg, p2]

theorem stIndex_ok {t : TypeId} {x i : Operand} (h : stIndex P ev t x i = some r) (hx : EvR ρ ev va x) (hi : EvR ρ ev va i) : SemR P ρ hp nx w (Instr.index t (va x) (va i)) r := by
  unfold stIndex at h
  split at h <;> try (cases h; done)
  rename_i k z hz
  have ez := hi _ hz
  simp only [RVR, AVR, CR] at ez
  split at h <;> try (cases h; done)
  rename_i v hv
  split at h <;> try (cases h; done)
  rotate_left
  · rename_i hu
    unfold strAt at h
    split at h <;> try (cases h; done)
    rename_i st
    split at h <;> try (cases h; done)
    rename_i j hj
    obtain ⟨rfl, hlt⟩ := idx_ok hj
    split at h <;> try (cases h; done)
    rename_i b hb
    have e : va x = .string st := hx _ hv
    refine SemR.quiet hr hf h (V := .int .u8 b.toNat) ?_ rfl
    simp [Instr.index, run_underlying hu, ez, asIntOf, e, hb]
  rename_i len e hu
  split at h <;> try (cases h; done)
  rename_i ti hti
  split at h <;> try (cases h; done)
  rename_i k' hk
  split at h <;> try (cases h; done)
  rename_i j hj
  split at h <;> try (cases h; done)
  rename_i hag
  obtain ⟨rfl, hlt⟩ := idx_ok hj
  obtain ⟨u, hu', hq⟩ := qOpt_ok h
  have e : AVR ρ v (va x) := hx _ hv
  obtain ⟨cs, e1, e2⟩ := e.agg hag
  have c2 := rowBody_ok e
  rw [e2] at c2
  obtain ⟨V, p1, p2⟩ := run_partOf (P := P) (w := w) hk hu' (cs := cs) c2
  refine SemR.quiet hr hf hq (V := V) ?_ p1
  simp [Instr.index, run_underlying hu, ez, asIntOf, e1, hlt, run_sz hti, p2]

omit hr hf in
theorem AVsR.get : ∀ {l : List AV} {vs : List Value}, AVsR ρ l vs → ∀ {i : Nat} {c : AV}, l[i]? = some c → ∃ v, vs[i]? = some v ∧ AVR ρ c v
  | [], _, _, _, _, hc => by simp at hc
  | _ :: _, _, ⟨v, vs', h1, h2, h3⟩, i, c, hc => by
    subst h3
    cases i with
    | zero => simp at hc; subst hc; exact ⟨v, rfl, h1⟩
    | succ i => simp at hc; obtain ⟨u, hu, hr⟩ := h2.get hc; exact ⟨u, by simpa using hu, hr⟩

theorem stExtract_ok {x : Operand} {i : Nat} (h : stExtract ev x i = some r) (hx : EvR ρ ev va x) : SemR P ρ hp nx w (Instr.extract (va x) i) r := by
  unfold stExtract at h
  split at h <;> try (cases h; done)
  rename_i l hl
  split at h <;> try (cases h; done)
  rename_i v hv
  simp only [Option.some.injEq] at h; subst h
  obtain ⟨vs, e1, e2⟩ := hx _ hl
  obtain ⟨V, e3, e4⟩ := e1.get hv
  refine SemR.q hr hf (V := V) ?_ e4
  simp [Instr.extract, e2, e3]

/-! ### build -/
omit hr hf in
theorem evs_ok : ∀ {l : List (Nat × Operand)} {vs : List (Nat × RV)}, evs ev l = some vs → (∀ x ∈ l, EvR ρ ev va x.2) →
    ∀ (place : Nat → Option (Nat × Nat)) (pl : Nat → Option (Nat × Nat)) (b b' : Body) (cs : Array Value), (∀ i a, place i = some a → pl i = some a) → BodyR ρ b cs.toList → fillB place b vs = some b' →
      ∃ cs', Instr.fill pl cs (l.map fun x => (x.1, va x.2)) = some cs' ∧ BodyR ρ b' cs'.toList ∧ cs'.size = cs.size
  | [], vs, h, _, place, pl, b, b', cs, _, hb, hf => by
    simp [evs] at h; subst h
    simp only [fillB, Option.some.injEq] at hf; subst hf
    exact ⟨cs, rfl, hb, rfl⟩
  | (i, x) :: l, vs, h, hx, place, pl, b, b', cs, hp, hb, hf => by
    simp only [evs] at h
    split at h <;> try (cases h; done)
    rename_i v vs' h1 h2
    simp only [Option.some.injEq] at h; subst h
    cases v with
    | tup l' => simp [fillB] at hf
    | any => simp [fillB] at hf
    | one v =>
      simp only [fillB] at hf
      split at hf <;> try (cases hf; done)
      rename_i off size hpl
      split at hf <;> try (cases hf; done)
      rename_i hsz
      split at hf <;> try (cases hf; done)
      rename_i b2 hset
      have e : AVR ρ v (va x) := hx (i, x) (by simp) _ h1
      obtain ⟨k1, k2⟩ := Body.set_ok hset hb e
      obtain ⟨_, _, c3⟩ := e.cells
      have ef : ((va x).cells.zipIdx.foldl (fun cs (c, j) => cs.setIfInBounds (off + j) c) cs).toList = over cs.toList off (va x).cells.toList := by
        have gen : ∀ (us : List Value) (j : Nat) (cs : Array Value), off + j + us.length ≤ cs.size → ((us.zipIdx j).foldl (fun cs x => cs.setIfInBounds (off + x.2) x.1) cs).toList = over cs.toList (off + j) us := by
          intro us
          induction us with
          | nil => intro j cs _; simp [over]
          | cons u us ih =>
            intro j cs hl
            have hl' : off + j + us.length + 1 ≤ cs.size := by simpa [Nat.add_assoc] using hl
            simp only [List.zipIdx_cons, List.foldl_cons]
            rw [ih (j + 1) (cs.setIfInBounds (off + j) u) (by simp; omega)]
            have e := list_seg_step cs.toList (off + j) u us (by simp; omega)
            simp only [over, Array.toList_setIfInBounds, List.length_cons]
            simpa [Nat.add_assoc, Nat.add_comm 1] using e
        have := gen (va x).cells.toList 0 cs (by simpa using k1)
        rw [← Array.foldl_toList, Array.toList_zipIdx]
        simpa using this
      have hb2 : BodyR ρ b2 ((va x).cells.zipIdx.foldl (fun cs (c, j) => cs.setIfInBounds (off + j) c) cs).toList := by rw [ef]; exact k2
      obtain ⟨cs', q1, q2, q3⟩ := evs_ok h2 (fun y hy => hx y (List.mem_cons_of_mem _ hy)) place pl b2 b' _ hp hb2 hf
      refine ⟨cs', ?_, q2, ?_⟩
      · simp only [List.map_cons, Instr.fill, hp _ _ hpl]
        rw [if_neg]
        · exact q1
        · simp only [Array.length_toList] at k1
          simp only [ne_eq, Bool.or_eq_true, decide_eq_true_eq]
          omega
      · rw [q3]
        have := congrArg List.length ef
        rw [over_length _ _ _ k1] at this
        simpa using this

omit hr hf in
theorem mapM_run {α β : Type} (f : α → Sem β) (g : α → β) (w : World) : ∀ (l : List α), (∀ x ∈ l, (f x).run P w = .ok (g x) w) → (l.mapM f).run P w = .ok (l.map g) w
  | [], _ => rfl
  | x :: l, h => by
    simp only [List.mapM_cons, Sem.run_bind, h x (by simp), Result.andThen_ok, mapM_run f g w l fun y hy => h y (List.mem_cons_of_mem _ hy)]
    rfl

theorem stBuild_ok {t : TypeId} {ps : Array (Nat × Operand)} (h : stBuild P ev t ps = some r) (hx : ∀ x ∈ ps.toList, EvR ρ ev va x.2) :
    SemR P ρ hp nx w (Instr.build t (ps.map fun (i, x) => (i, va x))) r := by
  unfold stBuild at h
  split at h <;> try (cases h; done)
  rename_i k hk
  split at h <;> try (cases h; done)
  rename_i z hz
  split at h <;> try (cases h; done)
  rename_i hfo
  split at h <;> try (cases h; done)
  rename_i l hl
  split at h <;> try (cases h; done)
  rename_i b hb
  obtain ⟨v, hv, hq⟩ := qOpt_ok h
  obtain ⟨zv, z1, z2⟩ := zeroAV_ok (w := w) (ρ := ρ) hz
  obtain ⟨c1, _, _⟩ := z2.cells
  have fin : ∀ cs' : Array Value, BodyR ρ b cs'.toList → AVR ρ v (.agg cs') := by
    intro cs' hb'
    unfold Body.toAV at hv
    split at hv
    · split at hv <;> try (cases hv; done)
      · split at hv <;> try (cases hv; done)
        rename_i l' hl'
        split at hv <;> try (cases hv; done)
        rename_i hn
        simp only [Option.some.injEq] at hv; subst hv
        obtain ⟨e1, e2⟩ := toInts_ok hl' hb'
        exact ⟨hn, by rw [← e1]⟩
      · simp only [Option.some.injEq] at hv; subst hv
        exact ⟨_, hb', by simp⟩
    · split at hv <;> try (cases hv; done)
      simp only [Option.some.injEq] at hv; subst hv
      obtain ⟨e1, e2⟩ := hb'
      exact ⟨e1, by rw [← e2]⟩
    · cases hv
  have hargs : (ps.map fun (i, x) => (i, va x)).toList = ps.toList.map fun x => (x.1, va x.2) := by simp
  unfold fieldsOK at hfo
  split at hfo
  · rename_i fs hu
    have hall : ∀ f ∈ fs.toList, ∃ i, P.info? f.type = some i := by
      intro f hf'
      have := List.all_eq_true.1 hfo f hf'
      exact Option.isSome_iff_exists.1 this
    have hm : (fs.mapM fun f => do pure (f.offset, ← sizeOf f.type) : Sem (Array (Nat × Nat))).run P w = .ok (fs.toList.map fun f => (f.offset, P.cellsOf f.type)).toArray w := by
      rw [Array.mapM_eq_mapM_toList]
      simp only [Sem.run_map]
      rw [mapM_run (P := P) _ (fun f : Field => (f.offset, P.cellsOf f.type)) w fs.toList]
      · rfl
      · intro f hf'
        obtain ⟨i, hi⟩ := hall f hf'
        simp [run_sz hi, Program.cellsOf, hi]
    obtain ⟨cs', q1, q2, q3⟩ := evs_ok hl hx (place P t) (fun i => (fs.toList.map fun f => (f.offset, P.cellsOf f.type)).toArray[i]?) z.body b zv.cells (by
      intro i a ha
      unfold place at ha
      rw [hu] at ha
      simp only at ha
      split at ha <;> try (cases ha; done)
      rename_i f hf'
      split at ha <;> try (cases ha; done)
      rename_i ti hti
      simp only [Option.some.injEq] at ha; subst ha
      have hf2 : fs.toList[i]? = some f := by simpa using hf'
      simp [hf', Program.cellsOf, hti]) c1 hb
    refine SemR.quiet hr hf hq (V := .agg cs') ?_ (fin cs' q2)
    simp only [Instr.build, Sem.run_bind, z1, Result.andThen_ok, run_underlying hu, hm, hargs, q1]
    rfl
  · rename_i len e hu
    obtain ⟨i, hi⟩ := Option.isSome_iff_exists.1 hfo
    obtain ⟨cs', q1, q2, q3⟩ := evs_ok hl hx (place P t) (fun j => some (j * i.size, i.size)) z.body b zv.cells (by
      intro j a ha
      unfold place at ha
      rw [hu] at ha
      simp only [hi] at ha
      exact ha) c1 hb
    refine SemR.quiet hr hf hq (V := .agg cs') ?_ (fin cs' q2)
    simp only [Instr.build, Sem.run_bind, z1, Result.andThen_ok, run_underlying hu, run_sz hi, hargs, q1]
    rfl
  · cases hfo

end ops
end Go.Sx

namespace Go.Sx
variable {P : Program} {ρ : Rho} {w : World} {hp : Hp} {nx : Nat}

/-! ## Rows of equal elements -/
theorem repl_length {α : Type} (l : List α) : ∀ n, (repl l n).length = n * l.length
  | 0 => by simp [repl]
  | n + 1 => by simp [repl, repl_length l n, Nat.add_mul]; omega

theorem CsR.repl {l : List Cell} {vs : List Value} (h : CsR ρ l vs) : ∀ n, CsR ρ (repl l n) (Sx.repl vs n)
  | 0 => rfl
  | n + 1 => h.append (h.repl n)

theorem repl_map {α β : Type} (f : α → β) (l : List α) : ∀ n, (repl l n).map f = repl (l.map f) n
  | 0 => rfl
  | n + 1 => by simp [repl, repl_map f l n]

theorem range_repl (zs : List Value) (s : Nat) (hs : zs.length = s) : ∀ n, (List.range (n * s)).map (fun i => zs.toArray[i % zs.toArray.size]!) = repl zs n
  | 0 => by simp [repl]
  | n + 1 => by
    have ih := range_repl zs s hs n
    rw [show (n + 1) * s = s + n * s by rw [Nat.add_mul]; omega, List.range_add, List.map_append, List.map_map]
    simp only [repl]
    congr 1
    · apply List.ext_getElem?
      intro i
      by_cases h : i < s
      · have : i % zs.length = i := Nat.mod_eq_of_lt (by omega)
        simp [h, this, List.getElem!_eq_getElem?_getD, List.getElem?_eq_getElem (show i < zs.length by omega)]
      · simp [h]; omega
    · rw [← ih]
      apply List.map_congr_left
      intro i _
      simp [hs, Nat.add_comm s i]

theorem rowsOf_ok {e : TypeId} {z : AV} {zv : Value} (hz : AVR ρ z zv) (n : Nat) : BodyR ρ (rowsOf P e z n) (repl zv.cells.toList n) := by
  obtain ⟨h1, h2, _⟩ := hz.cells
  unfold rowsOf
  split
  · unfold bodyRepl
    split
    · rename_i l hl
      rw [hl] at h1
      exact CsR.repl h1 n
    · rename_i k l m hl
      rw [hl] at h1
      obtain ⟨e1, e2⟩ := h1
      rw [e2, ← repl_map]
      exact ⟨by rw [repl_length, e1, Nat.mul_comm], rfl⟩
    · rename_i l m hl
      rw [hl] at h1
      obtain ⟨e1, e2⟩ := h1
      rw [e2, ← repl_map]
      exact ⟨by rw [repl_length, e1, Nat.mul_comm], rfl⟩
  · split
    · simp only [AVR, CR] at hz; subst hz
      refine ⟨by rw [repl_length]; simp, ?_⟩
      rw [repl_map]; rfl
    · exact h2.repl n

theorem zeros_eq {zv : Value} {s : Nat} (hs : zv.cells.size = s) (n : Nat) :
    ((Array.range (n * s)).map (fun i => (if n * s = 0 then #[] else zv.cells)[i % (if n * s = 0 then #[] else zv.cells : Array Value).size]!)).toList = repl zv.cells.toList n := by
  by_cases h : n * s = 0
  · rw [h]
    have : (repl zv.cells.toList n).length = 0 := by rw [repl_length]; simp [hs, h]
    simp [List.length_eq_zero_iff.1 this]
  · simp only [h, if_false]
    have := range_repl zv.cells.toList s (by simpa using hs) n
    rw [← this]
    simp

section ops
variable {ev : Ev} {va : Operand → Value} {r : Res} (hr : HRel ρ hp w) (hf : Fresh ρ nx)
include hr hf

theorem stBuildSlice_ok {t : TypeId} {len : Nat} {ps : Array (Nat × Operand)} (h : stBuildSlice P ev nx t len ps = some r) (hx : ∀ x ∈ ps.toList, EvR ρ ev va x.2) :
    SemR P ρ hp nx w (Instr.buildSlice t len (ps.map fun (i, x) => (i, va x))) r := by
  unfold stBuildSlice at h
  split at h <;> try (cases h; done)
  rename_i e hu
  split at h <;> try (cases h; done)
  rename_i z hz
  split at h <;> try (cases h; done)
  rename_i ti hti
  split at h <;> try (cases h; done)
  rename_i l hl
  split at h <;> try (cases h; done)
  rename_i b hb
  split at h <;> try (cases h; done)
  rename_i hc
  obtain ⟨hc1, hc2⟩ := hc
  simp only [Option.some.injEq] at h; subst h
  obtain ⟨zv, z1, z2⟩ := zeroAV_ok (w := w) (ρ := ρ) hz
  obtain ⟨_, _, c3⟩ := z2.cells
  have hb0 : BodyR ρ (rowsOf P e z len) ((Array.range (len * ti.size)).map (fun i => (if len * ti.size = 0 then #[] else zv.cells)[i % (if len * ti.size = 0 then #[] else zv.cells : Array Value).size]!)).toList := by
    rw [zeros_eq (by omega)]; exact rowsOf_ok z2 len
  obtain ⟨cs', q1, q2, q3⟩ := evs_ok hl hx (fun i => some (i * ti.size, ti.size)) (fun i => some (i * ti.size, ti.size)) _ b _ (fun _ _ h => h) hb0 hb
  have hargs : (ps.map fun (i, x) => (i, va x)).toList = ps.toList.map fun x => (x.1, va x.2) := by simp
  obtain ⟨w', n1, n2⟩ := newRow_ok (P := P) hr hf (c := 0) (t := e) (cells := cs') (v := .one (.c (.sl nx 0 len len))) (V := .slice (some ⟨w.heap.size, 0, none⟩) len len) q2 ⟨w.heap.size, 0, by simp [ext], rfl⟩
  refine ⟨_, w', _, ?_, n2⟩
  simp only [Instr.buildSlice, Sem.run_bind, run_underlying hu, Result.andThen_ok, run_sz hti]
  rw [if_neg (by omega)]
  by_cases h0 : len * ti.size = 0
  · simp only [h0, if_true] at q1 ⊢
    simp only [Sem.run_bind, Sem.run_pure, Result.andThen_ok, hargs, q1, n1]
  · simp only [h0, if_false] at q1 ⊢
    simp only [Sem.run_bind, Sem.run_pure, Result.andThen_ok, z1, hargs, q1, n1]

omit hr hf in
theorem wrapN (n : Nat) (h : n < 1000000000) : IntKind.i64.wrap (n : Int) = (n : Int) := IntWalk.i64_in _ (by omega)

theorem stMakeSlice_ok {t : TypeId} {l c : Operand} (h : stMakeSlice P ev nx t l c = some r) (hl : EvR ρ ev va l) (hc : EvR ρ ev va c) : SemR P ρ hp nx w (Instr.makeSlice t (va l) (va c)) r := by
  unfold stMakeSlice at h
  split at h <;> try (cases h; done)
  rename_i e hu
  split at h <;> try (cases h; done)
  rename_i k1 n0 hn
  split at h <;> try (cases h; done)
  rename_i k2 n hm
  split at h <;> try (cases h; done)
  rename_i z hz
  split at h <;> try (cases h; done)
  rename_i ti hti
  split at h <;> try (cases h; done)
  rename_i hc'
  obtain ⟨hle, hb, hn1, hsz⟩ := hc'
  simp only [Option.some.injEq] at h; subst h
  have e1 := hl _ hn
  have e2 := hc _ hm
  simp only [RVR, AVR, CR] at e1 e2
  obtain ⟨zv, z1, z2⟩ := zeroAV_ok (w := w) (ρ := ρ) hz
  obtain ⟨_, _, c3⟩ := z2.cells
  have hb0 : BodyR ρ (rowsOf P e z n) ((Array.range (n * ti.size)).map (fun i => (if n * ti.size = 0 then #[] else zv.cells)[i % (if n * ti.size = 0 then #[] else zv.cells : Array Value).size]!)).toList := by
    rw [zeros_eq (by omega)]; exact rowsOf_ok z2 n
  obtain ⟨w', n1, n2⟩ := newRow_ok (P := P) hr hf (c := 0) (t := e) (cells := (Array.range (n * ti.size)).map (fun i => (if n * ti.size = 0 then #[] else zv.cells)[i % (if n * ti.size = 0 then #[] else zv.cells : Array Value).size]!)) (v := .one (.c (.sl nx 0 n0 n))) (V := .slice (some ⟨w.heap.size, 0, none⟩) n0 n) hb0 ⟨w.heap.size, 0, by simp [ext], rfl⟩
  refine ⟨_, w', _, ?_, n2⟩
  have hw : IntKind.i64.wrap (Int.ofNat n) = (n : Int) := wrapN n hn1
  have hw0 : IntKind.i64.wrap (Int.ofNat n0) = (n0 : Int) := wrapN n0 (by omega)
  simp only [Instr.makeSlice, Sem.run_bind, run_underlying hu, Result.andThen_ok, e1, e2, asInt, asIntOf, Sem.run_pure, run_tInfo hti, hw, hw0]
  have h1 : ¬ ((n : Int) < 0) := by omega
  have h3 : ¬ ((n0 : Int) < 0) := by omega
  have h4 : ¬ ((n : Int) < (n0 : Int)) := by omega
  have h2 : ¬ ((ti.bytes : Int) * (n : Int) > 2 ^ 48) := by
    have : ((ti.bytes * n : Nat) : Int) ≤ (1000000000 : Nat) := Int.ofNat_le.2 hb
    rw [Int.natCast_mul] at this
    omega
  simp only [h1, h2, h3, h4, decide_false, Bool.or_self, gt_iff_lt, Bool.false_eq_true, if_false, run_askRoom, Sem.run_bind, Result.andThen_ok, run_sz hti, Int.toNat_natCast]
  by_cases h0 : n * ti.size = 0
  · simp only [h0, if_true] at n1
    rw [if_pos h0]
    simp only [Sem.run_bind, Sem.run_pure, Result.andThen_ok, h0, n1]
  · simp only [h0, if_false] at n1
    rw [if_neg h0]
    simp only [Sem.run_bind, Sem.run_pure, Result.andThen_ok, z1, n1]

/-! ### maps -/
omit hr hf in
theorem run_getMap {b : Nat} {es : Array MapEntry} {cl : Nat} (h : w.heap[b]? = some (.map es cl)) : (getObj b).run P w = .ok (.map es cl) w := by
  simp [getObj, Sem.run, h]

omit hr hf in
theorem run_setMap {b : Nat} {o o' : Obj} (h : w.heap[b]? = some o) (ho : ∀ c t f, o ≠ .cells c t f) : ∃ w', (setObj b o').run P w = .ok () w' ∧ WrW w b o' w' := by
  refine ⟨{ w with heap := w.heap.setIfInBounds b o' }, ?_, by simp, ?_, ?_, rfl, rfl, rfl⟩
  · cases o <;> simp_all [setObj, Sem.run]
  · have := lt_of_get h
    simp [this]
  · intro i hi
    simp [Ne.symm hi]

omit hr hf in
theorem eqKey_ok {d : TypeDesc} {k c : Cell} {K C : Value} {b : Bool} (hd : keyOK (some d) k = true) (h : eqKey k c = some b) (hk : CR ρ k K) (hc : CR ρ c C) : Instr.sameNow d K C = some b := by
  unfold eqKey at h
  split at h <;> try (cases h; done)
  · split at h <;> try (cases h; done)
    rename_i hkk
    subst hkk
    simp only [Option.some.injEq] at h
    simp only [CR] at hk hc
    subst hk hc h
    cases d <;> simp [keyOK] at hd
    simp [Instr.sameNow]
  · simp only [Option.some.injEq] at h
    simp only [CR] at hk hc
    subst hk hc h
    cases d <;> simp [keyOK] at hd
    simp [Instr.sameNow]
  · simp only [Option.some.injEq] at h
    simp only [CR] at hk hc
    subst hk hc h
    cases d <;> simp [keyOK] at hd
    simp [Instr.sameNow]

omit hr hf in
theorem findKey_ok {d : TypeDesc} {k : Cell} {K : Value} (hd : keyOK (some d) k = true) (hk : CR ρ k K) : ∀ {es : List (Cell × AV)} {ents : List MapEntry} {i : Nat} {r : Option (Nat × AV)}, findKey k es i = some r → EsR ρ es ents →
    match r with
    | none => Instr.findNow d K ents i = some none
    | some (j, v) => ∃ V e, Instr.findNow d K ents i = some (some (j, V)) ∧ AVR ρ v V ∧ i ≤ j ∧ ents[j - i]? = some e ∧ ∃ c, es[j - i]? = some (c, v) ∧ eqKey k c = some true ∧ CR ρ c e.key
  | [], _, i, r, h, he => by
    simp only [EsR] at he; subst he
    simp [Sx.findKey] at h; subst h
    rfl
  | (c, v) :: es, _, i, r, h, ⟨e, es', h1, h2, h3, h4⟩ => by
    subst h4
    simp only [Sx.findKey] at h
    split at h <;> try (cases h; done)
    · rename_i heq
      simp only [Option.some.injEq] at h; subst h
      have := eqKey_ok hd heq hk h1
      exact ⟨e.val, e, by simp [Instr.findNow, this], h2, Nat.le_refl _, by simp, c, by simp, heq, h1⟩
    · rename_i heq
      have := eqKey_ok hd heq hk h1
      have ih := findKey_ok hd hk h h3
      cases r with
      | none => simpa [Instr.findNow, this] using ih
      | some x =>
        obtain ⟨j, v'⟩ := x
        obtain ⟨V, e', q1, q2, q3, q4, c', q5, q6⟩ := ih
        refine ⟨V, e', by simp [Instr.findNow, this, q1], q2, by omega, ?_, c', ?_, q6⟩
        · rw [show j - i = (j - (i + 1)) + 1 by omega]; simpa using q4
        · rw [show j - i = (j - (i + 1)) + 1 by omega]; simpa using q5

omit hr hf in
theorem run_checkKey {kt : TypeId} {d : TypeDesc} {k : Cell} {K : Value} (hu : P.underlying kt = some d) (hd : keyOK (some d) k = true) (hk : CR ρ k K) (e : Bool) : (Instr.checkKey e 10000 kt K).run P w = .ok () w := by
  suffices h : ∀ n, (Instr.checkKey e (n + 1) kt K).run P w = .ok () w from h 9999
  intro n
  cases k <;> simp [keyOK] at hd <;> cases d <;> simp at hd <;> simp only [CR] at hk <;> subst hk <;> simp [Instr.checkKey, run_underlying hu]

omit hr hf in
theorem run_findKey {kt : TypeId} {d : TypeDesc} {K : Value} {ents : List MapEntry} {x : Option (Nat × Value)} (hu : P.underlying kt = some d) (h : Instr.findNow d K ents 0 = some x) : (Instr.findKey kt K ents).run P w = .ok x w := by
  simp [Instr.findKey, run_underlying hu, h]

omit hr hf in
theorem keyOK_some {d : Option TypeDesc} {k : Cell} (h : keyOK d k = true) : ∃ d', d = some d' := by
  cases d with
  | none => simp [keyOK] at h
  | some d => exact ⟨d, rfl⟩

omit hr hf in
theorem findAll_ok {d : TypeDesc} {k : Cell} {K : Value} (hd : keyOK (some d) k = true) (hk : CR ρ k K) : ∀ {es : List (Cell × AV)} {ents : List MapEntry} {r : Option AV}, findAll k es = some r → EsR ρ es ents →
    (∀ e ∈ ents, ∃ b, Instr.sameNow d K e.key = some b) ∧ match r with
    | none => ∀ e ∈ ents, Instr.sameNow d K e.key = some false
    | some v => ∃ e ∈ ents, Instr.sameNow d K e.key = some true ∧ AVR ρ v e.val
  | [], _, r, h, he => by
    simp only [EsR] at he; subst he
    simp only [findAll, Option.some.injEq] at h; subst h
    exact ⟨(fun e h => by cases h), (fun e h => by cases h)⟩
  | (c, v) :: es, _, r, h, ⟨e, es', h1, h2, h3, h4⟩ => by
    subst h4
    simp only [findAll] at h
    split at h <;> try (cases h; done)
    · rename_i x heq hx
      simp only [Option.some.injEq] at h; subst h
      obtain ⟨g1, _⟩ := findAll_ok hd hk hx h3
      have := eqKey_ok hd heq hk h1
      refine ⟨fun e' hm => ?_, e, List.mem_cons_self .., this, h2⟩
      rcases List.mem_cons.1 hm with rfl | hm
      · exact ⟨_, this⟩
      · exact g1 _ hm
    · rename_i x heq hx
      simp only [Option.some.injEq] at h; subst h
      obtain ⟨g1, g2⟩ := findAll_ok hd hk hx h3
      have := eqKey_ok hd heq hk h1
      refine ⟨fun e' hm => ?_, ?_⟩
      · rcases List.mem_cons.1 hm with rfl | hm
        · exact ⟨_, this⟩
        · exact g1 _ hm
      · cases x with
        | none =>
          intro e' hm
          rcases List.mem_cons.1 hm with rfl | hm
          · exact this
          · exact g2 _ hm
        | some v' =>
          obtain ⟨e', q1, q2⟩ := g2
          exact ⟨e', List.mem_cons_of_mem _ q1, q2⟩
omit hr hf in
theorem findNow_all {d : TypeDesc} {K : Value} : ∀ {ents : List MapEntry} {i : Nat}, (∀ e ∈ ents, Instr.sameNow d K e.key = some false) → Instr.findNow d K ents i = some none
  | [], _, _ => rfl
  | e :: es, i, h => by
    simp only [Instr.findNow, h e (List.mem_cons_self ..)]
    exact findNow_all fun e' hm => h e' (List.mem_cons_of_mem _ hm)
omit hr hf in
theorem findNow_one {d : TypeDesc} {K : Value} {V : Value} : ∀ {ents : List MapEntry} {i : Nat}, (∀ e ∈ ents, ∃ b, Instr.sameNow d K e.key = some b) → (∀ e ∈ ents, Instr.sameNow d K e.key = some true → e.val = V) → (∃ e ∈ ents, Instr.sameNow d K e.key = some true) →
    ∃ j, Instr.findNow d K ents i = some (some (j, V))
  | [], _, _, _, ⟨e, h, _⟩ => by cases h
  | e :: es, i, h1, h2, h3 => by
    obtain ⟨b, hb⟩ := h1 e (List.mem_cons_self ..)
    cases b with
    | true => exact ⟨i, by simp only [Instr.findNow, hb, h2 e (List.mem_cons_self ..) hb]⟩
    | false =>
      simp only [Instr.findNow, hb]
      refine findNow_one (fun e' hm => h1 e' (List.mem_cons_of_mem _ hm)) (fun e' hm => h2 e' (List.mem_cons_of_mem _ hm)) ?_
      obtain ⟨e', hm, he⟩ := h3
      rcases List.mem_cons.1 hm with rfl | hm
      · rw [hb] at he; cases he
      · exact ⟨e', hm, he⟩
omit hr hf in
theorem keys_apart : ∀ {l : List MapEntry}, l.Pairwise (fun x y => x.key ≠ y.key) → ∀ {x y : MapEntry}, x ∈ l → y ∈ l → x ≠ y → x.key ≠ y.key
  | [], _, _, _, h, _, _ => by cases h
  | e :: l, hp, x, y, hx, hy, hne => by
    obtain ⟨h1, h2⟩ := List.pairwise_cons.1 hp
    have ex := List.mem_cons.1 hx
    have ey := List.mem_cons.1 hy
    rcases ex with ex | ex <;> rcases ey with ey | ey
    · exact absurd (ex.trans ey.symm) hne
    · rw [ex]; exact h1 y ey
    · rw [ey]; exact Ne.symm (h1 x ex)
    · exact keys_apart h2 ex ey hne
omit hr hf in
theorem sameNow_eq {d : TypeDesc} {K A B : Value} (h1 : Instr.sameNow d K A = some true) (h2 : Instr.sameNow d K B = some true) : A = B := by
  have key : ∀ X, Instr.sameNow d K X = some true → X = K := fun X h => by
    unfold Instr.sameNow at h
    split at h <;> try (cases h; done)
    · split at h <;> try (cases h; done)
      rename_i hk
      simp only [Option.some.injEq, beq_iff_eq] at h
      rw [h, hk]
    · simp only [Option.some.injEq] at h; rw [(MapKept.bytes_beq _ _).1 h]
    · simp only [Option.some.injEq] at h; rw [eq_of_beq h]
  rw [key _ h1, key _ h2]
omit hr hf in
theorem findKey_V (k : Int) : ∀ (l : List (Int × List Int)) (i : Nat), findKey (.int .i64 k) (toVs l) i = if hasV l k then some (some (i + l.findIdx (fun p => p.1 == k), .c (.vsl (getV l k)))) else some none
  | [], i => rfl
  | (a, b) :: r, i => by
    show findKey (.int .i64 k) ((.int .i64 a, .c (.vsl b)) :: toVs r) i = _
    simp only [findKey, eqKey, if_true, hasV, getV, List.findIdx_cons]
    by_cases h : a = k
    · subst h; simp
    · have : (a == k) = false := by simp [h]
      have h2 : (k == a) = false := by simp [Ne.symm h]
      simp only [this, h2, if_neg h, cond_false]
      rw [findKey_V k r (i + 1)]
      have e : i + 1 + r.findIdx (fun p => p.1 == k) = i + (r.findIdx (fun p => p.1 == k) + 1) := by omega
      rw [e]
omit hr hf in
theorem getV_none {l : List (Int × List Int)} {k : Int} (h : hasV l k = false) : getV l k = [] := by
  induction l with
  | nil => rfl
  | cons p r ih =>
    obtain ⟨a, b⟩ := p
    simp only [hasV, getV] at h ⊢
    by_cases e : a = k
    · rw [if_pos e] at h; cases h
    · rw [if_neg e] at h ⊢; exact ih h
omit hr hf in
theorem findKey_T (l : List ByteArray) (s : ByteArray) : ∀ (i : Nat), match findKey (.str s) (toSs l) i with
    | some (some (j, v)) => (hasT l s = true ∧ v = .c (.bool true)) ∧ i ≤ j ∧ (toSs l).set (j - i) (.str s, .c (.bool true)) = toSs l
    | some none => hasT l s = false
    | none => False := by
  induction l with
  | nil => intro i; rfl
  | cons c r ih =>
    intro i
    show match findKey (.str s) ((.str c, .c (.bool true)) :: toSs r) i with
      | some (some (j, v)) => (hasT (c :: r) s = true ∧ v = .c (.bool true)) ∧ i ≤ j ∧ ((.str c, .c (.bool true)) :: toSs r).set (j - i) (.str s, .c (.bool true)) = (.str c, .c (.bool true)) :: toSs r
      | some none => hasT (c :: r) s = false
      | none => False
    have hc : hasT (c :: r) s = ((s == c) || hasT r s) := rfl
    simp only [findKey, eqKey]
    cases h : (s == c) with
    | true =>
      have e : s = c := (MapKept.bytes_beq s c).1 h
      simp only [hc, h, Bool.true_or, and_self, Nat.le_refl, Nat.sub_self, List.set_cons_zero, true_and]
      rw [e]
    | false =>
      have := ih (i + 1)
      simp only [hc, h, Bool.false_or]
      split at this
      · rename_i j v e
        try rw [e]
        obtain ⟨h1, h2, h3⟩ := this
        refine ⟨h1, by omega, ?_⟩
        obtain ⟨d, hd⟩ : ∃ d, j - i = d + 1 := ⟨j - i - 1, by omega⟩
        rw [hd, List.set_cons_succ, show d = j - (i + 1) by omega, h3]
      · rename_i e; try rw [e]
        exact this
      · exact this.elim
theorem stLookup_ok {t : TypeId} {m k : Operand} {ok : Bool} (h : stLookup P ev hp t m k ok = some r) (hm : EvR ρ ev va m) (hk : EvR ρ ev va k) : SemR P ρ hp nx w (Instr.lookup t (va m) (va k) ok) r := by
  unfold stLookup at h
  split at h <;> try (cases h; done)
  rename_i kt e hu
  split at h <;> try (cases h; done)
  rename_i mc hmc
  split at h <;> try (cases h; done)
  rename_i kc hkc
  split at h <;> try (cases h; done)
  rename_i z hz
  split at h
  · rename_i nm v tb hvs
    split at h <;> try (cases h; done)
    rename_i hko
    obtain ⟨hko, hzv⟩ := hko
    simp only [Option.some.injEq] at h; subst h
    have em : CR ρ mc (va m) := hm _ hmc
    have ek : CR ρ kc (va k) := hk _ hkc
    obtain ⟨d, hd⟩ := keyOK_some hko
    rw [hd] at hko
    obtain ⟨zv, z1, z2⟩ := zeroAV_ok (w := w) (ρ := ρ) hz
    have key : ∃ (ents : Array MapEntry) (es : List (Cell × AV)), (Instr.lookup t (va m) (va k) ok).run P w = (do
      Instr.checkKey ents.isEmpty 10000 kt (va k)
      let (v, ok') ← match ← Instr.findKey kt (va k) ents.toList with
        | some (_, v) => pure (v, true)
        | none => pure (← zeroValue e, false)
      pure (if ok then .tuple #[v, .bool ok'] else v) : Sem Value).run P w ∧ EsR ρ es ents.toList ∧ ((tb = true ∧ ∃ j, findKey kc es 0 = some (some (j, .c v))) ∨ (tb = false ∧ findKey kc es 0 = some none ∧ CR ρ v zv)) := by
      unfold lookVS at hvs
      split at hvs <;> try (cases hvs; done)
      rename_i nm'
      split at hvs <;> try (cases hvs; done)
      · rename_i l kn hblk
        simp only [Option.some.injEq, Prod.mk.injEq] at hvs
        obtain ⟨rfl, rfl, rfl⟩ := hvs
        obtain ⟨b, c, e1, e2⟩ := em
        obtain ⟨b', c', o, g1, g2, g3⟩ := hr.ok _ _ hblk
        rw [e1] at g1
        simp only [Option.some.injEq, Prod.mk.injEq] at g1
        obtain ⟨rfl, rfl⟩ := g1
        obtain ⟨ents, cl, rfl, g4, g5⟩ := g3
        refine ⟨ents, _, ?_, g4, ?_⟩
        · simp only [Instr.lookup, Sem.run_bind, run_underlying hu, Result.andThen_ok, e2, run_getMap g2, Sem.run_pure]; rfl
        rw [findKey_V]
        cases hh : hasV l kn with
        | true => exact .inl ⟨rfl, _, rfl⟩
        | false =>
          refine .inr ⟨rfl, rfl, ?_⟩
          cases z with
          | c zc => cases zc <;> first | (cases hzv; done) | (rw [getV_none hh]; exact .inl ⟨rfl, z2⟩)
          | _ => cases hzv
      · rename_i l s hblk
        simp only [Option.some.injEq, Prod.mk.injEq] at hvs
        obtain ⟨rfl, rfl, rfl⟩ := hvs
        obtain ⟨b, c, e1, e2⟩ := em
        obtain ⟨b', c', o, g1, g2, g3⟩ := hr.ok _ _ hblk
        rw [e1] at g1
        simp only [Option.some.injEq, Prod.mk.injEq] at g1
        obtain ⟨rfl, rfl⟩ := g1
        obtain ⟨ents, cl, rfl, g4, g5⟩ := g3
        refine ⟨ents, _, ?_, g4, ?_⟩
        · simp only [Instr.lookup, Sem.run_bind, run_underlying hu, Result.andThen_ok, e2, run_getMap g2, Sem.run_pure]; rfl
        have hT := findKey_T l s 0
        split at hT
        · rename_i j v e
          exact .inl ⟨hT.1.1, j, by rw [e, hT.1.1, hT.1.2]⟩
        · rename_i e
          refine .inr ⟨hT, e, ?_⟩
          rw [hT]
          cases z with
          | c zc =>
            cases zc <;> try (cases hzv; done)
            rename_i bz
            have : bz = false := by simpa [zVS] using hzv
            subst this
            exact z2
          | _ => cases hzv
        · exact hT.elim
    obtain ⟨ents, es, hrun, he, hcase⟩ := key
    rcases hcase with ⟨rfl, j, hfk⟩ | ⟨rfl, hfk, hcr⟩
    · obtain ⟨V, e', q1, q2, _⟩ := findKey_ok hko ek hfk he
      refine ⟨if ok then .tuple #[V, .bool true] else V, w, ρ, ?_, Out.quiet ?_ hr hf⟩
      · rw [hrun]
        simp only [Sem.run_bind, run_checkKey hd hko ek, Result.andThen_ok, run_findKey hd q1, Sem.run_pure]
      · cases ok
        · exact q2
        · exact ⟨[V, .bool true], ⟨V, _, q2, ⟨_, _, rfl, rfl, rfl⟩, rfl⟩, rfl⟩
    · have q1 := findKey_ok hko ek hfk he
      refine ⟨if ok then .tuple #[zv, .bool false] else zv, w, ρ, ?_, Out.quiet ?_ hr hf⟩
      · rw [hrun]
        simp only [Sem.run_bind, run_checkKey hd hko ek, Result.andThen_ok, run_findKey hd q1, Sem.run_pure, z1]
      · cases ok
        · exact hcr
        · exact ⟨[zv, .bool false], ⟨zv, _, hcr, ⟨_, _, rfl, rfl, rfl⟩, rfl⟩, rfl⟩
  split at h
  · rename_i nm es hmp
    split at h <;> try (cases h; done)
    rename_i hko
    have em : CR ρ mc (va m) := hm _ hmc
    have ek : CR ρ kc (va k) := hk _ hkc
    obtain ⟨d, hd⟩ := keyOK_some hko
    rw [hd] at hko
    obtain ⟨zv, z1, z2⟩ := zeroAV_ok (w := w) (ρ := ρ) hz
    unfold mapPof at hmp
    split at hmp <;> try (cases hmp; done)
    split at hmp <;> try (cases hmp; done)
    rename_i hblk
    simp only [Option.some.injEq, Prod.mk.injEq] at hmp
    obtain ⟨rfl, rfl⟩ := hmp
    obtain ⟨b, c, e1, e2⟩ := em
    obtain ⟨b', c', o, g1, g2, g3⟩ := hr.ok _ _ hblk
    rw [e1] at g1
    simp only [Option.some.injEq, Prod.mk.injEq] at g1
    obtain ⟨rfl, rfl⟩ := g1
    obtain ⟨ents, cl, es', rfl, g4, g5, g6⟩ := g3
    obtain ⟨_, _, hpw⟩ := (MapKept.stamped_iff ents cl).1 g6
    have hrun : (Instr.lookup t (va m) (va k) ok).run P w = (do
      Instr.checkKey ents.isEmpty 10000 kt (va k)
      let (v, ok') ← match ← Instr.findKey kt (va k) ents.toList with
        | some (_, v) => pure (v, true)
        | none => pure (← zeroValue e, false)
      pure (if ok then .tuple #[v, .bool ok'] else v) : Sem Value).run P w := by
      simp only [Instr.lookup, Sem.run_bind, run_underlying hu, Result.andThen_ok, e2, run_getMap g2, Sem.run_pure]; rfl
    unfold lookP at h
    split at h
    · rename_i v hfa
      simp only [Option.some.injEq] at h; subst h
      obtain ⟨q1, e', q2, q3, q4⟩ := findAll_ok hko ek hfa g4
      obtain ⟨j, q5⟩ := findNow_one (V := e'.val) (i := 0) (fun x hx => q1 x (g5.mem_iff.2 hx)) (fun x hx hs => by
        have hk := sameNow_eq hs q3
        have hx' : e' ∈ ents.toList := g5.mem_iff.1 q2
        by_cases he : x = e'
        · rw [he]
        · exact absurd hk (keys_apart hpw hx hx' he)) ⟨e', g5.mem_iff.1 q2, q3⟩
      refine ⟨if ok then .tuple #[e'.val, .bool true] else e'.val, w, ρ, ?_, Out.quiet ?_ hr hf⟩
      · rw [hrun]
        simp only [Sem.run_bind, run_checkKey hd hko ek, Result.andThen_ok, run_findKey hd q5, Sem.run_pure]
      · cases ok
        · exact q4
        · exact ⟨[e'.val, .bool true], ⟨_, _, q4, ⟨_, _, rfl, rfl, rfl⟩, rfl⟩, rfl⟩
    · rename_i hfa
      simp only [Option.some.injEq] at h; subst h
      obtain ⟨q1, q2⟩ := findAll_ok hko ek hfa g4
      have q5 := findNow_all (i := 0) fun x hx => q2 x (g5.mem_iff.2 hx)
      refine ⟨if ok then .tuple #[zv, .bool false] else zv, w, ρ, ?_, Out.quiet ?_ hr hf⟩
      · rw [hrun]
        simp only [Sem.run_bind, run_checkKey hd hko ek, Result.andThen_ok, run_findKey hd q5, Sem.run_pure, z1]
      · cases ok
        · exact z2
        · exact ⟨[zv, .bool false], ⟨_, _, z2, ⟨_, _, rfl, rfl, rfl⟩, rfl⟩, rfl⟩
    · cases h
  split at h <;> try (cases h; done)
  rename_i es nd hes
  split at h <;> try (cases h; done)
  rename_i hko
  have em : CR ρ mc (va m) := hm _ hmc
  have ek : CR ρ kc (va k) := hk _ hkc
  obtain ⟨d, hd⟩ := keyOK_some hko
  rw [hd] at hko
  obtain ⟨zv, z1, z2⟩ := zeroAV_ok (w := w) (ρ := ρ) hz
  have hent : ∃ ents : Array MapEntry, EsR ρ es ents.toList ∧ (Instr.lookup t (va m) (va k) ok).run P w = (do
      Instr.checkKey ents.isEmpty 10000 kt (va k)
      let (v, ok') ← match ← Instr.findKey kt (va k) ents.toList with
        | some (_, v) => pure (v, true)
        | none => pure (← zeroValue e, false)
      pure (if ok then .tuple #[v, .bool ok'] else v) : Sem Value).run P w := by
    unfold mapEs at hes
    split at hes <;> try (cases hes; done)
    · simp only [Option.some.injEq, Prod.mk.injEq] at hes
      obtain ⟨rfl, rfl⟩ := hes
      simp only [CR] at em
      exact ⟨#[], rfl, by simp only [Instr.lookup, Sem.run_bind, run_underlying hu, Result.andThen_ok, em, Sem.run_pure]; rfl⟩
    · split at hes <;> try (cases hes; done)
      all_goals
      rename_i hblk
      simp only [Option.some.injEq, Prod.mk.injEq] at hes
      obtain ⟨rfl, rfl⟩ := hes
      obtain ⟨b, c, e1, e2⟩ := em
      obtain ⟨b', c', o, g1, g2, g3⟩ := hr.ok _ _ hblk
      rw [e1] at g1
      simp only [Option.some.injEq, Prod.mk.injEq] at g1
      obtain ⟨rfl, rfl⟩ := g1
      obtain ⟨ents, cl, rfl, g4, g5⟩ := g3
      exact ⟨ents, g4, by simp only [Instr.lookup, Sem.run_bind, run_underlying hu, Result.andThen_ok, e2, run_getMap g2, Sem.run_pure]; rfl⟩
  obtain ⟨ents, he, hrun⟩ := hent
  unfold lookRes at h
  split at h
  · rename_i j v hfk
    simp only [Option.some.injEq] at h; subst h
    obtain ⟨V, e', q1, q2, _⟩ := findKey_ok hko ek hfk he
    refine ⟨if ok then .tuple #[V, .bool true] else V, w, ρ, ?_, Out.quiet ?_ hr hf⟩
    · rw [hrun]
      simp only [Sem.run_bind, run_checkKey hd hko ek, Result.andThen_ok, run_findKey hd q1, Sem.run_pure]
    · cases ok
      · exact q2
      · exact ⟨[V, .bool true], ⟨V, _, q2, ⟨_, _, rfl, rfl, rfl⟩, rfl⟩, rfl⟩
  · rename_i hfk
    simp only [Option.some.injEq] at h; subst h
    have q1 := findKey_ok hko ek hfk he
    refine ⟨if ok then .tuple #[zv, .bool false] else zv, w, ρ, ?_, Out.quiet ?_ hr hf⟩
    · rw [hrun]
      simp only [Sem.run_bind, run_checkKey hd hko ek, Result.andThen_ok, run_findKey hd q1, Sem.run_pure, z1]
    · cases ok
      · exact z2
      · exact ⟨[zv, .bool false], ⟨zv, _, z2, ⟨_, _, rfl, rfl, rfl⟩, rfl⟩, rfl⟩
  · cases h

omit hr hf in
theorem EsR.set : ∀ {es : List (Cell × AV)} {ents : List MapEntry}, EsR ρ es ents → ∀ (i : Nat) (k : Cell) (v : AV) (f : MapEntry → MapEntry), (∀ e, CR ρ k (f e).key ∧ AVR ρ v (f e).val) → EsR ρ (es.set i (k, v)) (ents.modify i f)
  | [], _, h, i, k, v, f, _ => by simp only [EsR] at h; subst h; simp [EsR]
  | (c, u) :: es, _, ⟨e, es', h1, h2, h3, h4⟩, i, k, v, f, hf => by
    subst h4
    cases i with
    | zero => exact ⟨f e, es', (hf e).1, (hf e).2, h3, by simp⟩
    | succ i => exact ⟨e, es'.modify i f, h1, h2, h3.set i k v f hf, by simp⟩

omit hr hf in
theorem EsR.push : ∀ {es : List (Cell × AV)} {ents : List MapEntry}, EsR ρ es ents → ∀ (k : Cell) (v : AV) (e : MapEntry), CR ρ k e.key → AVR ρ v e.val → EsR ρ (es ++ [(k, v)]) (ents ++ [e])
  | [], _, h, k, v, e, h1, h2 => by simp only [EsR] at h; subst h; exact ⟨e, [], h1, h2, rfl, rfl⟩
  | (c, u) :: es, _, ⟨e', es', h1, h2, h3, h4⟩, k, v, e, g1, g2 => by
    subst h4
    exact ⟨e', es' ++ [e], h1, h2, h3.push k v e g1 g2, rfl⟩

omit hr hf in
theorem EsR.erase : ∀ {es : List (Cell × AV)} {ents : List MapEntry}, EsR ρ es ents → ∀ (i : Nat), EsR ρ (es.eraseIdx i) (ents.eraseIdx i)
  | [], _, h, i => by simp only [EsR] at h; subst h; simp [EsR]
  | (c, u) :: es, _, ⟨e, es', h1, h2, h3, h4⟩, i => by
    subst h4
    cases i with
    | zero => exact h3
    | succ i => exact ⟨e, es'.eraseIdx i, h1, h2, h3.erase i, by simp⟩

omit hr hf in
theorem keyStays {d : TypeDesc} {k c : Cell} {K C : Value} (hd : keyOK (some d) k = true) (h : eqKey k c = some true) (hk : CR ρ k K) (hc : CR ρ c C) : (Instr.keyThatStays C K).run P w = .ok K w := by
  have : ∀ n, Instr.sameBits n C K = true := by
    intro n
    unfold eqKey at h
    split at h <;> try (cases h; done)
    · split at h <;> try (cases h; done)
      rename_i hkk
      subst hkk
      simp only [Option.some.injEq, beq_iff_eq] at h
      simp only [CR] at hk hc
      subst hk hc h
      cases n <;> simp [Instr.sameBits]
    · simp only [Option.some.injEq] at h
      simp only [CR] at hk hc
      subst hk hc
      rw [beq_toListBytes, beq_iff_eq] at h
      cases n <;> simp [Instr.sameBits, beq_toListBytes, h]
    · simp only [Option.some.injEq, beq_iff_eq] at h
      simp only [CR] at hk hc
      subst hk hc h
      cases n <;> simp [Instr.sameBits]
  simp [Instr.keyThatStays, this]

omit hr hf in
theorem eqKey_same {k c : Cell} {K C : Value} {b : Bool} (h : eqKey k c = some b) (hk : CR ρ k K) (hc : CR ρ c C) : (C = K) ↔ b = true := by
  unfold eqKey at h
  split at h <;> try (cases h; done)
  · rename_i k1 x k2 y
    split at h <;> try (cases h; done)
    rename_i hkk
    subst hkk
    simp only [Option.some.injEq] at h
    simp only [CR] at hk hc
    subst hk hc
    rw [← h, beq_iff_eq]
    exact ⟨fun e => by cases e; rfl, fun e => by rw [e]⟩
  · rename_i x y
    simp only [Option.some.injEq] at h
    simp only [CR] at hk hc
    subst hk hc
    rw [← h]
    exact ⟨fun e => by cases e; exact (MapKept.bytes_beq _ _).2 rfl, fun e => by rw [(MapKept.bytes_beq x y).1 e]⟩
  · rename_i x y
    simp only [Option.some.injEq] at h
    simp only [CR] at hk hc
    subst hk hc
    rw [← h, beq_iff_eq]
    exact ⟨fun e => by cases e; rfl, fun e => by rw [e]⟩

omit hr hf in
theorem findKey_none {k : Cell} {K : Value} (hk : CR ρ k K) : ∀ {es : List (Cell × AV)} {ents : List MapEntry} {i : Nat}, findKey k es i = some none → EsR ρ es ents → ∀ x ∈ ents, x.key ≠ K
  | [], _, _, _, he, x, hx => by simp only [EsR] at he; subst he; cases hx
  | (c, v) :: es, _, i, h, ⟨e, es', h1, h2, h3, h4⟩, x, hx => by
    subst h4
    simp only [Sx.findKey] at h
    split at h <;> try (cases h; done)
    rename_i heq
    rcases List.mem_cons.1 hx with rfl | hx
    · intro e
      have := (eqKey_same heq hk h1).1 e
      cases this
    · exact findKey_none hk h h3 x hx

omit hr hf in
theorem keyTy_ok {t : TypeId} {d : TypeDesc} (h : keyTy P t = some d) : ∃ kt e, P.underlying t = some (.map kt e) ∧ P.underlying kt = some d := by
  unfold keyTy at h
  split at h
  · exact ⟨_, _, by assumption, h⟩
  · cases h

omit hr hf in
theorem unvalI_ok {vk : Option IntKind} {v : AV} {x : Int} (h : unvalI vk v = some x) : v = .c (valI vk x) := by
  unfold unvalI at h
  split at h <;> try (cases h; done)
  · split at h <;> try (cases h; done)
    rename_i e
    cases h; subst e; rfl
  · rename_i b
    cases h
    cases b <;> rfl
omit hr hf in
theorem findKey_I (vk : Option IntKind) (k : Int) : ∀ (l : List (Int × Int)) (i : Nat), findKey (.int .i64 k) (toEs vk l) i = if hasI l k then some (some (i + l.findIdx (fun p => p.1 == k), .c (valI vk (getI l k)))) else some none
  | [], i => rfl
  | (a, b) :: r, i => by
    show findKey (.int .i64 k) ((.int .i64 a, .c (valI vk b)) :: toEs vk r) i = _
    simp only [findKey, eqKey, if_true, hasI, getI, List.findIdx_cons]
    by_cases h : a = k
    · subst h; simp
    · have : (a == k) = false := by simp [h]
      have h2 : (k == a) = false := by simp [Ne.symm h]
      simp only [this, h2, if_neg h, cond_false]
      rw [findKey_I vk k r (i + 1)]
      have e : i + 1 + r.findIdx (fun p => p.1 == k) = i + (r.findIdx (fun p => p.1 == k) + 1) := by omega
      rw [e]
omit hr hf in
theorem putI_es (vk : Option IntKind) (l : List (Int × Int)) (k v : Int) : match findKey (.int .i64 k) (toEs vk l) 0 with
    | some (some (i, _)) => toEs vk (putI l k v) = (toEs vk l).set i (.int .i64 k, .c (valI vk v))
    | some none => toEs vk (putI l k v) = toEs vk l ++ [(.int .i64 k, .c (valI vk v))]
    | none => False := by
  rw [findKey_I]
  induction l with
  | nil => rfl
  | cons p r ih =>
    obtain ⟨a, b⟩ := p
    simp only [hasI, putI, List.findIdx_cons]
    by_cases h : a = k
    · subst h; simp [toEs]
    · have : (a == k) = false := by simp [h]
      simp only [if_neg h, this, cond_false, getI, Nat.zero_add] at ih ⊢
      cases hh : hasI r k with
      | true => rw [hh] at ih; simp only [if_true] at ih ⊢; simpa [toEs] using ih
      | false => rw [hh] at ih; simp only [Bool.false_eq_true, if_false] at ih ⊢; simpa [toEs] using ih

omit hr hf in
theorem putV_es (l : List (Int × List Int)) (k : Int) (v : List Int) : match findKey (.int .i64 k) (toVs l) 0 with
    | some (some (i, _)) => toVs (putV l k v) = (toVs l).set i (.int .i64 k, .c (.vsl v))
    | some none => toVs (putV l k v) = toVs l ++ [(.int .i64 k, .c (.vsl v))]
    | none => False := by
  rw [findKey_V]
  induction l with
  | nil => rfl
  | cons p r ih =>
    obtain ⟨a, b⟩ := p
    simp only [hasV, putV, List.findIdx_cons]
    by_cases h : a = k
    · subst h; simp [toVs]
    · have : (a == k) = false := by simp [h]
      simp only [if_neg h, this, cond_false, getV, Nat.zero_add] at ih ⊢
      cases hh : hasV r k with
      | true => rw [hh] at ih; simp only [if_true] at ih ⊢; simpa [toVs] using ih
      | false => rw [hh] at ih; simp only [Bool.false_eq_true, if_false] at ih ⊢; simpa [toVs] using ih
omit hr hf in
theorem putT_es (l : List ByteArray) (s : ByteArray) : match findKey (.str s) (toSs l) 0 with
    | some (some (i, _)) => toSs (putT l s) = (toSs l).set i (.str s, .c (.bool true))
    | some none => toSs (putT l s) = toSs l ++ [(.str s, .c (.bool true))]
    | none => False := by
  have h := findKey_T l s 0
  split at h
  · obtain ⟨⟨h1, _⟩, _, h2⟩ := h
    unfold putT
    rw [h1, cond_true]
    exact h2.symm
  · unfold putT
    rw [h, cond_false]
    simp [toSs]
  · exact h.elim
/-- an update of a map that is shown in its own way -/
theorem mapUpd_gen {t : TypeId} {m k x : Operand} {nm : Nat} {kc : Cell} {v : AV} {X Y : Blk} {es es' : List (Cell × AV)} (hmc : ev m = some (.one (.c (.map nm)))) (hkc : ev k = some (.one (.c kc))) (hv : ev x = some (.one v)) (hblk : hp nm = some X) (hwr : X.wr = true)
    (hko : keyOK (keyTy P t) kc = true) (hX : ∀ ρ c o, BlkR ρ c X o → ∃ ents clock, o = .map ents clock ∧ EsR ρ es ents.toList ∧ MapKept.Stamped ents clock) (hY : ∀ ρ c ents clock, EsR ρ es' ents.toList → MapKept.Stamped ents clock → BlkR ρ c Y (.map ents clock))
    (hput : match findKey kc es 0 with | some (some (i, _)) => es' = es.set i (kc, v) | some none => es' = es ++ [(kc, v)] | none => False)
    (hm : EvR ρ ev va m) (hk : EvR ρ ev va k) (hx : EvR ρ ev va x) :
    ∃ w' ρ', (Instr.mapUpdate t (va m) (va k) (va x)).run P w = .ok () w' ∧ Out ρ hp nx w (.wr nm Y) und undef ρ' w' := by
  obtain ⟨b, c, e1, e2⟩ := hm _ hmc
  have ek : CR ρ kc (va k) := hk _ hkc
  have ex : AVR ρ v (va x) := hx _ hv
  obtain ⟨d, hd⟩ := keyOK_some hko
  rw [hd] at hko
  obtain ⟨kt, e, hu, hu2⟩ := keyTy_ok hd
  obtain ⟨b', c', o, g1, g2, g3⟩ := hr.ok _ _ hblk
  rw [e1] at g1
  simp only [Option.some.injEq, Prod.mk.injEq] at g1
  obtain ⟨rfl, rfl⟩ := g1
  obtain ⟨ents, cl, rfl, g4, g5⟩ := hX _ _ _ g3
  split at hput
  · rename_i i v0 hfk
    obtain ⟨V, e', q1, q2, q3, q4, c', q5, q6, q7⟩ := findKey_ok hko ek hfk g4
    have hent : ents[i]? = some e' := by simpa using q4
    obtain ⟨w', s1, s2⟩ := run_setMap (P := P) (o' := .map (ents.modify i fun e => { e with key := va k, val := va x }) cl) g2 (by intros; simp)
    refine ⟨w', ρ, ?_, hr.wrOut hf hblk hwr e1 (hY _ _ _ _ ?_ (MapKept.stamped_modify g5 i (fun e => { e with key := va k, val := va x }) (fun _ _ => rfl) fun e he hi => by rw [hent] at hi; cases hi; exact ((eqKey_same q6 ek q7).2 rfl).symm)) s2 ⟨[], rfl, rfl⟩⟩
    · simp only [Instr.mapUpdate, Sem.run_bind, run_underlying hu, Result.andThen_ok, e2, run_getMap g2, run_checkKey hu2 hko ek, run_findKey hu2 q1, hent, Option.map_some, Option.getD_some, keyStays hko q6 ek q7, s1]
    · have := g4.set i kc v (fun e => { e with key := va k, val := va x }) fun e => ⟨ek, ex⟩
      rw [hput]
      simpa using this
  · rename_i hfk
    have q1 := findKey_ok hko ek hfk g4
    obtain ⟨w', s1, s2⟩ := run_setMap (P := P) (o' := .map (ents.push { key := va k, val := va x, born := cl }) (cl + 1)) g2 (by intros; simp)
    refine ⟨w', ρ, ?_, hr.wrOut hf hblk hwr e1 (hY _ _ _ _ ?_ (MapKept.stamped_push g5 (findKey_none ek hfk g4))) s2 ⟨[], rfl, rfl⟩⟩
    · simp only [Instr.mapUpdate, Sem.run_bind, run_underlying hu, Result.andThen_ok, e2, run_getMap g2, run_checkKey hu2 hko ek, run_findKey hu2 q1, s1]
    · have := g4.push kc v { key := va k, val := va x, born := cl } ek ex
      rw [hput]
      simpa using this
  · exact hput.elim

theorem stMapUpdate_ok {t : TypeId} {m k x : Operand} (h : stMapUpdate P ev hp t m k x = some r) (hm : EvR ρ ev va m) (hk : EvR ρ ev va k) (hx : EvR ρ ev va x) :
    ∃ w' ρ', (Instr.mapUpdate t (va m) (va k) (va x)).run P w = .ok () w' ∧ Out ρ hp nx w r.u r.v undef ρ' w' := by
  unfold stMapUpdate at h
  split at h <;> try (cases h; done)
  rename_i nm hmc
  split at h <;> try (cases h; done)
  rename_i kc hkc
  split at h <;> try (cases h; done)
  rename_i v hv
  split at h <;> try (cases h; done)
  · rename_i es hblk
    split at h <;> try (cases h; done)
    rename_i hko
    obtain ⟨b, c, e1, e2⟩ := hm _ hmc
    have ek : CR ρ kc (va k) := hk _ hkc
    have ex : AVR ρ v (va x) := hx _ hv
    obtain ⟨d, hd⟩ := keyOK_some hko
    rw [hd] at hko
    obtain ⟨kt, e, hu, hu2⟩ := keyTy_ok hd
    obtain ⟨b', c', o, g1, g2, g3⟩ := hr.ok _ _ hblk
    rw [e1] at g1
    simp only [Option.some.injEq, Prod.mk.injEq] at g1
    obtain ⟨rfl, rfl⟩ := g1
    obtain ⟨ents, cl, rfl, g4, g5⟩ := g3
    unfold mapPut at h
    split at h
    · rename_i i v0 hfk
      simp only [Option.some.injEq] at h; subst h
      obtain ⟨V, e', q1, q2, q3, q4, c', q5, q6, q7⟩ := findKey_ok hko ek hfk g4
      have hent : ents[i]? = some e' := by simpa using q4
      obtain ⟨w', s1, s2⟩ := run_setMap (P := P) (o' := .map (ents.modify i fun e => { e with key := va k, val := va x }) cl) g2 (by intros; simp)
      refine ⟨w', ρ, ?_, hr.wrOut hf hblk rfl e1 ⟨_, _, rfl, ?_, MapKept.stamped_modify g5 i (fun e => { e with key := va k, val := va x }) (fun _ _ => rfl) fun e he hi => by rw [hent] at hi; cases hi; exact ((eqKey_same q6 ek q7).2 rfl).symm⟩ s2 ⟨[], rfl, rfl⟩⟩
      · simp only [Instr.mapUpdate, Sem.run_bind, run_underlying hu, Result.andThen_ok, e2, run_getMap g2, run_checkKey hu2 hko ek, run_findKey hu2 q1, hent, Option.map_some, Option.getD_some, keyStays hko q6 ek q7, s1]
      · have := g4.set i kc v (fun e => { e with key := va k, val := va x }) fun e => ⟨ek, ex⟩
        simpa using this
    · rename_i hfk
      simp only [Option.some.injEq] at h; subst h
      have q1 := findKey_ok hko ek hfk g4
      obtain ⟨w', s1, s2⟩ := run_setMap (P := P) (o' := .map (ents.push { key := va k, val := va x, born := cl }) (cl + 1)) g2 (by intros; simp)
      refine ⟨w', ρ, ?_, hr.wrOut hf hblk rfl e1 ⟨_, _, rfl, ?_, MapKept.stamped_push g5 (findKey_none ek hfk g4)⟩ s2 ⟨[], rfl, rfl⟩⟩
      · simp only [Instr.mapUpdate, Sem.run_bind, run_underlying hu, Result.andThen_ok, e2, run_getMap g2, run_checkKey hu2 hko ek, run_findKey hu2 q1, s1]
      · have := g4.push kc v { key := va k, val := va x, born := cl } ek ex
        simpa using this
    · cases h
  · rename_i vk l hblk
    split at h <;> try (cases h; done)
    rename_i hko
    obtain ⟨b, c, e1, e2⟩ := hm _ hmc
    have ek : CR ρ kc (va k) := hk _ hkc
    have ex : AVR ρ v (va x) := hx _ hv
    obtain ⟨d, hd⟩ := keyOK_some hko
    rw [hd] at hko
    obtain ⟨kt, e, hu, hu2⟩ := keyTy_ok hd
    obtain ⟨b', c', o, g1, g2, g3⟩ := hr.ok _ _ hblk
    rw [e1] at g1
    simp only [Option.some.injEq, Prod.mk.injEq] at g1
    obtain ⟨rfl, rfl⟩ := g1
    obtain ⟨ents, cl, rfl, g4, g5⟩ := g3
    unfold mapPutI at h
    split at h <;> try (cases h; done)
    rename_i kn
    split at h <;> try (cases h; done)
    rename_i xn hun
    simp only [Option.some.injEq] at h; subst h
    have hv' := unvalI_ok hun
    have hput := putI_es vk l kn xn
    split at hput
    · rename_i i v0 hfk
      obtain ⟨V, e', q1, q2, q3, q4, c', q5, q6, q7⟩ := findKey_ok hko ek hfk g4
      have hent : ents[i]? = some e' := by simpa using q4
      obtain ⟨w', s1, s2⟩ := run_setMap (P := P) (o' := .map (ents.modify i fun e => { e with key := va k, val := va x }) cl) g2 (by intros; simp)
      refine ⟨w', ρ, ?_, hr.wrOut hf hblk rfl e1 ⟨_, _, rfl, ?_, MapKept.stamped_modify g5 i (fun e => { e with key := va k, val := va x }) (fun _ _ => rfl) fun e he hi => by rw [hent] at hi; cases hi; exact ((eqKey_same q6 ek q7).2 rfl).symm⟩ s2 ⟨[], rfl, rfl⟩⟩
      · simp only [Instr.mapUpdate, Sem.run_bind, run_underlying hu, Result.andThen_ok, e2, run_getMap g2, run_checkKey hu2 hko ek, run_findKey hu2 q1, hent, Option.map_some, Option.getD_some, keyStays hko q6 ek q7, s1]
      · have := g4.set i (.int .i64 kn) v (fun e => { e with key := va k, val := va x }) fun e => ⟨ek, ex⟩
        rw [hput, ← hv']
        simpa using this
    · rename_i hfk
      have q1 := findKey_ok hko ek hfk g4
      obtain ⟨w', s1, s2⟩ := run_setMap (P := P) (o' := .map (ents.push { key := va k, val := va x, born := cl }) (cl + 1)) g2 (by intros; simp)
      refine ⟨w', ρ, ?_, hr.wrOut hf hblk rfl e1 ⟨_, _, rfl, ?_, MapKept.stamped_push g5 (findKey_none ek hfk g4)⟩ s2 ⟨[], rfl, rfl⟩⟩
      · simp only [Instr.mapUpdate, Sem.run_bind, run_underlying hu, Result.andThen_ok, e2, run_getMap g2, run_checkKey hu2 hko ek, run_findKey hu2 q1, s1]
      · have := g4.push (.int .i64 kn) v { key := va k, val := va x, born := cl } ek ex
        rw [hput, ← hv']
        simpa using this
    · exact hput.elim
  · rename_i l hblk
    split at h <;> try (cases h; done)
    rename_i hko
    unfold mapPutV at h
    split at h <;> try (cases h; done)
    rename_i kn c
    simp only [Option.some.injEq] at h; subst h
    exact mapUpd_gen hr hf hmc hkc hv hblk rfl hko (fun _ _ _ h => h) (fun _ _ ents clock h1 h2 => ⟨ents, clock, rfl, h1, h2⟩) (putV_es l kn c) hm hk hx
  · rename_i l hblk
    split at h <;> try (cases h; done)
    rename_i hko
    unfold mapPutT at h
    split at h <;> try (cases h; done)
    rename_i s
    simp only [Option.some.injEq] at h; subst h
    exact mapUpd_gen hr hf hmc hkc hv hblk rfl hko (fun _ _ _ h => h) (fun _ _ ents clock h1 h2 => ⟨ents, clock, rfl, h1, h2⟩) (putT_es l s) hm hk hx

end ops
end Go.Sx

namespace Go.Sx
variable {P : Program} {ρ : Rho} {w : World} {hp : Hp} {nx : Nat}

theorem HRel.sub {hp' : Hp} (hr : HRel ρ hp w) (h : ∀ i x, hp' i = some x → hp i = some x) : HRel ρ hp' w :=
  ⟨fun nm x hx => hr.ok nm x (h _ _ hx), fun nm nm' x y b c c' hx hy hw h1 h2 => hr.inj nm nm' x y b c c' (h _ _ hx) (h _ _ hy) hw h1 h2, fun b l hb => ⟨(hr.fz b l hb).1, fun nm x c hx => (hr.fz b l hb).2 nm x c (h _ _ hx)⟩⟩

theorem upd_none_sub {nm : Nat} : ∀ i x, upd hp nm none i = some x → hp i = some x := by
  intro i x h
  by_cases e : i = nm
  · subst e; rw [upd_same] at h; cases h
  · rwa [upd_ne _ _ e] at h

theorem HRel.mvNew {w' : World} {nm c : Nat} {x y : Blk} {o : Obj} {v : RV} {V : Value} (hr : HRel ρ hp w) (hf : Fresh ρ nx) (hx : hp nm = some x) (hw : x.wr = true)
    (ho : BlkR (ext ρ nx w.heap.size c) c y o) (hW : NewW w o w') (hv : RVR (ext ρ nx w.heap.size c) v V) : Out ρ hp nx w (.mv nm y) v V (ext ρ nx w.heap.size c) w' := by
  have h := (hr.sub (hp' := upd hp nm none) upd_none_sub).newOut hf ho hW hv
  refine ⟨h.val, h.rel, h.fresh, ?_⟩
  have s := h.stp
  constructor
  · exact s.le
  · exact s.rho
  · intro i hi hL
    have hL : i ≠ nm := by simpa [Upd.log] using hL
    rw [show (Upd.mv nm y).hp hp nx = (Upd.new y).hp (upd hp nm none) nx from rfl, s.keep i hi (by simp [Upd.log]), upd_ne _ _ hL]
  · exact s.size
  · exact fun b hb _ => s.frame b hb (by simp [Upd.log])
  · intro i b' c' hi he
    rcases s.new i b' c' hi he with h' | ⟨_, _, hm, _⟩
    · exact .inl h'
    · simp [Upd.log] at hm
  · intro i hi _
    simp only [Upd.log, List.mem_singleton] at hi
    subst hi
    exact ⟨x, hx, hw⟩
  · exact s.os
  · exact s.tape
  · exact s.out
  · exact s.fzk
  · exact fun _ _ h => .inl h

theorem HRel.mvIn {w' : World} {nm b c : Nat} {x y : Blk} {o : Obj} {v : RV} {V : Value} (hr : HRel ρ hp w) (hf : Fresh ρ nx)
    (hx : hp nm = some x) (hw : x.wr = true) (hb : ρ nm = some (b, c)) (ho : BlkR (ext ρ nx b c) c y o) (hW : WrW w b o w') (hv : RVR (ext ρ nx b c) v V) :
    Out ρ hp nx w (.mv nm y) v V (ext ρ nx b c) w' := by
  have hnm : nm < nx := by
    rcases Nat.lt_or_ge nm nx with h | h
    · exact h
    · rw [hf nm h] at hb; cases hb
  have old : ∀ i b' c', i ≠ nx → ext ρ nx b c i = some (b', c') → ρ i = some (b', c') := by
    intro i b' c' h e; simpa [ext, h] using e
  have get : ∀ i z, i ≠ nx → (Upd.mv nm y).hp hp nx i = some z → i ≠ nm ∧ hp i = some z := by
    intro i z h e
    simp only [Upd.hp, upd_ne _ _ h] at e
    by_cases e' : i = nm
    · subst e'; rw [upd_same] at e; cases e
    · exact ⟨e', by rwa [upd_ne _ _ e'] at e⟩
  constructor
  · exact hv
  · constructor
    · intro i z hz
      by_cases h : i = nx
      · subst h
        simp only [Upd.hp, upd_same, Option.some.injEq] at hz
        subst hz
        exact ⟨b, c, o, by simp [ext], hW.at_, ho⟩
      · obtain ⟨h1, h2⟩ := get i z h hz
        obtain ⟨b', c', o', g1, g2, g3⟩ := hr.ok i z h2
        refine ⟨b', c', o', by simp [ext, h, g1], ?_, g3.mono (ext_sub hf _ _)⟩
        rw [hW.other b' fun e => ?_, g2]
        subst e
        exact h1 (hr.inj nm i x z _ _ _ hx h2 hw hb g1).symm
    · intro i j p q b1 c1 c2 hp1 hq1 hpw h1 h2
      by_cases hi : i = nx <;> by_cases hj : j = nx
      · rw [hi, hj]
      · subst hi
        obtain ⟨k1, k2⟩ := get j q hj hq1
        simp [ext] at h1
        have := old j _ _ hj h2
        rw [← h1.1] at this
        exact absurd (hr.inj nm j x q _ _ _ hx k2 hw hb this).symm k1
      · subst hj
        obtain ⟨k1, k2⟩ := get i p hi hp1
        simp [ext] at h2
        have := old i _ _ hi h1
        rw [← h2.1] at this
        exact absurd (hr.inj nm i x p _ _ _ hx k2 hw hb this).symm k1
      · obtain ⟨k1, k2⟩ := get i p hi hp1
        obtain ⟨k3, k4⟩ := get j q hj hq1
        exact hr.inj _ _ _ _ _ _ _ k2 k4 hpw (old i _ _ hi h1) (old j _ _ hj h2)
    · refine hr.fz.of (fun _ _ h => h) (fun b' l h => hW.other b' (hr.fzne hx hw hb h)) fun i z b' c' hz hzw he => .inl ?_
      by_cases h : i = nx
      · subst h; simp [ext] at he; exact ⟨nm, x, c, hx, hw, by rw [hb, he.1]⟩
      · obtain ⟨_, k2⟩ := get i z h hz
        exact ⟨i, z, c', k2, hzw, old i _ _ h he⟩
  · intro i hi
    simp only [Upd.nx] at hi
    have : i ≠ nx := by omega
    simp [ext, this, hf i (by omega)]
  · constructor
    · simp [Upd.nx]
    · intro i hi
      have : i ≠ nx := by omega
      simp [ext, this]
    · intro i hi hL
      have hL : i ≠ nm := by simpa [Upd.log] using hL
      have : i ≠ nx := by omega
      simp [Upd.hp, upd_ne _ _ this, upd_ne _ _ hL]
    · rw [hW.size]; exact Nat.le_refl _
    · intro i hi hL
      refine hW.other i fun e => ?_
      subst e
      exact hL nm c (by simp [Upd.log]) hnm hb
    · intro i b' c' hi he
      by_cases h : i = nx
      · subst h; simp [ext] at he; exact .inr ⟨nm, c, by simp [Upd.log], hnm, by rw [hb, he.1]⟩
      · have he := old i _ _ h he
        rw [hf i hi] at he; cases he
    · intro i hi _
      simp only [Upd.log, List.mem_singleton] at hi
      subst hi
      exact ⟨x, hx, hw⟩
    · exact hW.os
    · exact hW.tape
    · exact hW.out
    · exact fun _ _ h => h
    · exact fun _ _ h => .inl h

/-! ## Pieces of bodies -/
theorem Body.cut_ok {b b' : Body} {off n : Nat} (h : b.cut off n = some b') {vs : List Value} (hb : BodyR ρ b vs) : off + n ≤ vs.length ∧ BodyR ρ b' ((vs.drop off).take n) := by
  have hl := hb.length
  cases b with
  | cells l =>
    simp only [Body.cut] at h
    split at h <;> try (cases h; done)
    simp only [Option.some.injEq] at h; subst h
    exact ⟨by simp [Body.size] at hl; omega, (CsR.drop hb off).take n⟩
  | ints k l m =>
    simp only [Body.cut] at h
    split at h <;> try (cases h; done)
    obtain ⟨h1, rfl⟩ := hb
    simp only [Option.some.injEq] at h; subst h
    exact ⟨by simp; omega, by simp; omega, by simp [List.map_take, List.map_drop]⟩
  | bools l m =>
    simp only [Body.cut] at h
    split at h <;> try (cases h; done)
    obtain ⟨h1, rfl⟩ := hb
    simp only [Option.some.injEq] at h; subst h
    exact ⟨by simp; omega, by simp; omega, by simp [List.map_take, List.map_drop]⟩

theorem Body.put_ok {b b' x : Body} {off : Nat} (h : b.put off x = some b') {vs us : List Value} (hb : BodyR ρ b vs) (hx : BodyR ρ x us) : off + us.length ≤ vs.length ∧ BodyR ρ b' (over vs off us) := by
  have hl := hb.length
  cases b with
  | cells l =>
    cases x with
    | cells x =>
      simp only [Body.put] at h
      split at h <;> try (cases h; done)
      simp only [Option.some.injEq] at h; subst h
      have := CsR.length hx
      exact ⟨by simp [Body.size] at hl; omega, CsR.over hb hx off⟩
    | ints k x m =>
      simp only [Body.put] at h
      split at h <;> try (cases h; done)
      obtain ⟨h1, rfl⟩ := hx
      simp only [Option.some.injEq] at h; subst h
      exact ⟨by simp [Body.size] at hl ⊢; omega, CsR.over hb (CsR.ints k x) off⟩
    | bools x m =>
      simp only [Body.put] at h
      split at h <;> try (cases h; done)
      obtain ⟨h1, rfl⟩ := hx
      simp only [Option.some.injEq] at h; subst h
      exact ⟨by simp [Body.size] at hl ⊢; omega, CsR.over hb (CsR.bools x) off⟩
  | bools l n =>
    cases x with
    | ints => simp [Body.put] at h
    | cells x =>
      simp only [Body.put] at h
      split at h <;> try (cases h; done)
      rename_i y hy
      split at h <;> try (cases h; done)
      obtain ⟨h1, rfl⟩ := hb
      obtain ⟨h2, h3⟩ := toBools_ok hy hx
      subst h2
      simp only [Option.some.injEq] at h; subst h
      refine ⟨by simp; omega, ?_, ?_⟩
      · rw [over_length _ _ _ (by omega)]; exact h1
      · simp [over, List.map_append, List.map_take, List.map_drop]
    | bools x m =>
      simp only [Body.put] at h
      split at h <;> try (cases h; done)
      obtain ⟨h1, rfl⟩ := hb
      obtain ⟨h2, rfl⟩ := hx
      simp only [Option.some.injEq] at h; subst h
      refine ⟨by simp; omega, ?_, ?_⟩
      · rw [over_length _ _ _ (by omega)]; exact h1
      · simp [over, List.map_append, List.map_take, List.map_drop]
  | ints k l n =>
    cases x with
    | cells x => simp [Body.put] at h
    | bools => simp [Body.put] at h
    | ints k' x m =>
      simp only [Body.put] at h
      split at h <;> try (cases h; done)
      rename_i hc
      obtain ⟨rfl, hc⟩ := hc
      obtain ⟨h1, rfl⟩ := hb
      obtain ⟨h2, rfl⟩ := hx
      simp only [Option.some.injEq] at h; subst h
      refine ⟨by simp; omega, ?_, ?_⟩
      · rw [over_length _ _ _ (by omega)]; exact h1
      · simp [over, List.map_append, List.map_take, List.map_drop]

theorem Body.cat_ok {b b' x : Body} (h : b.cat x = some b') {vs us : List Value} (hb : BodyR ρ b vs) (hx : BodyR ρ x us) : BodyR ρ b' (vs ++ us) := by
  cases b with
  | cells l =>
    cases x with
    | cells x =>
      simp only [Body.cat, Option.some.injEq] at h; subst h
      exact CsR.append hb hx
    | ints k x m =>
      obtain ⟨h1, rfl⟩ := hx
      simp only [Body.cat, Option.some.injEq] at h; subst h
      exact CsR.append hb (CsR.ints k x)
    | bools x m =>
      obtain ⟨h1, rfl⟩ := hx
      simp only [Body.cat, Option.some.injEq] at h; subst h
      exact CsR.append hb (CsR.bools x)
  | bools l n =>
    cases x with
    | ints => simp [Body.cat] at h
    | cells x =>
      simp only [Body.cat] at h
      split at h <;> try (cases h; done)
      rename_i y hy
      obtain ⟨h1, rfl⟩ := hb
      obtain ⟨h2, h3⟩ := toBools_ok hy hx
      subst h2
      simp only [Option.some.injEq] at h; subst h
      exact ⟨by simp [h1, h3], by simp⟩
    | bools x m =>
      obtain ⟨h1, rfl⟩ := hb
      obtain ⟨h2, rfl⟩ := hx
      simp only [Body.cat, Option.some.injEq] at h; subst h
      exact ⟨by simp [h1, h2], by simp⟩
  | ints k l n =>
    cases x with
    | cells x => simp [Body.cat] at h
    | bools => simp [Body.cat] at h
    | ints k' x m =>
      simp only [Body.cat] at h
      split at h <;> try (cases h; done)
      rename_i hk
      subst hk
      obtain ⟨h1, rfl⟩ := hb
      obtain ⟨h2, rfl⟩ := hx
      simp only [Option.some.injEq] at h; subst h
      exact ⟨by simp [h1, h2], by simp⟩

theorem BodyR.one {b : Body} {vs : List Value} (h : BodyR ρ b vs) : ∀ v ∈ vs, v.oneCell' = true := by
  cases b with
  | cells l => exact CsR.one h
  | ints k l n => obtain ⟨_, rfl⟩ := h; exact CsR.one (CsR.ints (ρ := ρ) k l)
  | bools l n => obtain ⟨_, rfl⟩ := h; exact CsR.one (CsR.bools (ρ := ρ) l)

/-- where a slice's cells are -/
theorem sliceParts_ok {x : Cell} {s nm off len : Nat} (h : sliceParts x s = some (some (nm, off, len))) {X : Value} (hx : CR ρ x X) :
    ∃ b c cap, ρ nm = some (b, c) ∧ X = .slice (some ⟨b, off, none⟩) len cap := by
  unfold sliceParts at h
  split at h <;> try (cases h; done)
  · simp only [Option.some.injEq, Prod.mk.injEq] at h
    obtain ⟨rfl, rfl, rfl⟩ := h
    obtain ⟨b, c, e1, e2⟩ := hx
    exact ⟨b, c, _, e1, e2⟩
  · split at h
    rotate_left
    · split at h <;> cases h
    rename_i hs
    obtain ⟨hs, hl0⟩ := hs
    subst hs
    simp only [Option.some.injEq, Prod.mk.injEq] at h
    obtain ⟨rfl, rfl, rfl⟩ := h
    obtain ⟨b, c, ao, e1, e0, e3, e2⟩ := hx
    obtain rfl := e3.resolve_right (by omega)
    exact ⟨b, c, _, e1, e2⟩

theorem sliceParts_nil {x : Cell} {s : Nat} (h : sliceParts x s = some none) {X : Value} (hx : CR ρ x X) : X = .slice none 0 0 ∨ ∃ A cap, X = .slice (some A) 0 cap := by
  unfold sliceParts at h
  split at h <;> try (cases h; done)
  · exact .inl hx
  · split at h
    · cases h
    · split at h <;> try (cases h; done)
      rename_i h0
      obtain ⟨b, c, ao, e1, e0, e3, e2⟩ := hx
      subst h0
      exact .inr ⟨_, _, e2⟩

theorem srcBody_ok {x : Cell} {s : Nat} {n : Option Nat} {from_ : Option Nat} {m : Nat} {bd : Option Body} (hr : HRel ρ hp w) (h : srcBody hp s n x = some (from_, m, bd)) {X : Value} (hx : CR ρ x X) :
    ∃ l us, (∀ w' : World, (Builtin.lenOf X).run P w' = .ok l w') ∧ m = lenBy n l ∧ (∀ w' : World, w'.heap = w.heap → (Builtin.firstCells s m X).run P w' = .ok us.toArray w') ∧ us.length = m * s ∧ ∀ b, bd = some b → BodyR ρ b us := by
  unfold srcBody at h
  split at h
  · rename_i st
    simp only [CR] at hx
    subst hx
    split at h <;> try (cases h; done)
    rename_i hs1
    subst hs1
    simp only [Option.some.injEq, Prod.mk.injEq] at h
    obtain ⟨_, hm, hb⟩ := h
    have hle : m ≤ st.size := by rw [← hm]; cases n <;> simp [lenBy]; omega
    have hsz : st.data.size = st.size := rfl
    refine ⟨st.size, ((st.data.toList.map fun x => (x.toNat : Int)).take m).map (Value.int .u8), fun _ => by simp [Builtin.lenOf], hm.symm, fun w' _ => ?_, ?_, ?_⟩
    · simp only [Builtin.firstCells, Sem.run_pure]
      congr 1
      apply Array.toList_inj.1
      simp [List.map_take, ByteArray.data_extract]
      rfl
    · simp; omega
    · intro b hb'
      rw [← hb] at hb'
      simp only [Option.some.injEq] at hb'
      subst hb'
      rw [hm]
      exact ⟨by simp; omega, rfl⟩
  · split at h <;> try (cases h; done)
    · rename_i hs
      simp only [Option.some.injEq, Prod.mk.injEq] at h
      obtain ⟨_, rfl, rfl⟩ := h
      rcases sliceParts_nil hs hx with rfl | ⟨A, cap, rfl⟩
      · exact ⟨0, [], fun _ => by simp [Builtin.lenOf], by cases n <;> simp [lenBy], fun _ _ => by simp [Builtin.firstCells], by simp, by simp⟩
      · exact ⟨0, [], fun _ => by simp [Builtin.lenOf], by cases n <;> simp [lenBy], fun _ _ => by simp [Builtin.firstCells, loadCells, loadCellsFrom], by simp, by simp⟩
    · rename_i nm off len hs
      obtain ⟨b, c, cap, e1, rfl⟩ := sliceParts_ok hs hx
      split at h <;> try (cases h; done)
      rename_i b2 hrw
      simp only [Option.some.injEq, Prod.mk.injEq] at h
      obtain ⟨_, hm, rfl⟩ := h
      unfold rowOrWin at hrw
      split at hrw <;> try (cases hrw; done)
      rotate_left
      · rename_i o' k' l' hwin
        split at hrw <;> try (cases hrw; done)
        rename_i hle
        simp only [Option.some.injEq] at hrw
        subst hrw
        obtain ⟨bl, cc, ob, g1, g2, cs, t, fr, rfl, g3, g4⟩ := hr.ok _ _ hwin
        rw [e1] at g1
        simp only [Option.some.injEq, Prod.mk.injEq] at g1
        obtain ⟨rfl, rfl⟩ := g1
        rw [hm] at hle
        have hcs : (cs.toList.drop off).take (m * s) = ((l'.drop (off - o')).take (m * s)).map (Value.int k') := by
          have h1 : (cs.toList.drop off).take (m * s) = (((cs.toList.drop o').take l'.length).drop (off - o')).take (m * s) := by
            rw [List.drop_take, List.drop_drop, show o' + (off - o') = off by omega, List.take_take, Nat.min_eq_left (by omega)]
          rw [h1, g4, List.map_take, List.map_drop]
        refine ⟨len, (cs.toList.drop off).take (m * s), fun _ => by simp [Builtin.lenOf], hm.symm, fun w' hw' => ?_, by simp; omega, ?_⟩
        · simp only [Builtin.firstCells]
          have : w'.heap[b]? = some (.cells cs.toList.toArray t fr) := by rw [hw']; simpa using g2
          rw [run_loadRow (w := w') this (m * s) (by simp; omega)]
        · intro b hb'
          simp only [Option.some.injEq] at hb'
          subst hb'
          rw [hm]
          exact ⟨by simp; omega, hcs⟩
      rename_i t ro opn bd' hrow0
      have hrow : getRow hp nm = some (t, ro, opn, bd') := by unfold getRow; rw [hrow0]
      have hcut := hrw
      obtain ⟨hblk, bl, cc, vs, tail, fr, g1, g2, g3, _, _⟩ := row_ok hr hrow
      rw [e1] at g1
      simp only [Option.some.injEq, Prod.mk.injEq] at g1
      obtain ⟨rfl, rfl⟩ := g1
      obtain ⟨k1, k2⟩ := Body.cut_ok hcut g3
      rw [hm] at k1 k2
      refine ⟨len, (vs.drop off).take (m * s), fun _ => by simp [Builtin.lenOf], hm.symm, fun w' hw' => ?_, by simp; omega, ?_⟩
      · simp only [Builtin.firstCells]
        rw [run_loadRow (w := w') (by rw [hw']; exact g2) (m * s) (by simp; omega)]
        congr 2
        simp only
        rw [List.drop_append_of_le_length (by omega), List.take_append_of_le_length (by simp; omega)]
      · intro b hb'
        simp only [Option.some.injEq] at hb'
        subst hb'
        exact k2

section ops
variable {r : Res} (hr : HRel ρ hp w) (hf : Fresh ρ nx)
include hr hf

theorem lenRes_ok {ts : Array TypeId} {ty : TypeId} {x : RV} {X : Value} (h : lenRes P hp ts x = some r) (hx : RVR ρ x X) : SemR P ρ hp nx w (Builtin.len_ ts ty #[X]) r := by
  unfold lenRes at h
  split at h <;> try (cases h; done)
  rename_i t ht
  split at h
  · rename_i hu
    split at h <;> try (cases h; done)
    simp only [intQ, Option.some.injEq] at h; subst h
    simp only [RVR, AVR, CR] at hx; subst hx
    exact SemR.q hr hf (V := .int .i64 _) (by simp [Builtin.len_, ht, run_underlying hu, goInt]) rfl
  · rename_i e hu
    unfold lenSl at h
    split at h <;> try (cases h; done)
    all_goals
      simp only [intQ, Option.some.injEq] at h; subst h
    · simp only [RVR, AVR, CR] at hx; subst hx
      exact SemR.q hr hf (V := .int .i64 _) (by simp [Builtin.len_, ht, run_underlying hu, goInt]) rfl
    · obtain ⟨_, _, _, rfl⟩ := hx
      exact SemR.q hr hf (V := .int .i64 _) (by simp [Builtin.len_, ht, run_underlying hu, goInt]) rfl
    · obtain ⟨_, _, _, _, _, _, rfl⟩ := hx
      exact SemR.q hr hf (V := .int .i64 _) (by simp [Builtin.len_, ht, run_underlying hu, goInt]) rfl
    · rcases hx with ⟨rfl, rfl⟩ | ⟨_, _, _, _, rfl⟩
      · exact SemR.q hr hf (V := .int .i64 _) (by simp [Builtin.len_, ht, run_underlying hu, goInt]) rfl
      · exact SemR.q hr hf (V := .int .i64 _) (by simp [Builtin.len_, ht, run_underlying hu, goInt]) rfl
  · rename_i k e hu
    unfold lenMap at h
    split at h <;> try (cases h; done)
    · simp only [intQ, Option.some.injEq] at h; subst h
      simp only [RVR, AVR, CR] at hx; subst hx
      exact SemR.q hr hf (V := .int .i64 _) (by simp [Builtin.len_, ht, run_underlying hu, goInt]) rfl
    · split at h <;> try (cases h; done)
      all_goals
      rename_i es hblk
      simp only [intQ, Option.some.injEq] at h; subst h
      obtain ⟨b, c, e1, rfl⟩ := hx
      obtain ⟨b', c', o, g1, g2, g3⟩ := hr.ok _ _ hblk
      rw [e1] at g1
      simp only [Option.some.injEq, Prod.mk.injEq] at g1
      obtain ⟨rfl, rfl⟩ := g1
      obtain ⟨ents, cl, rfl, g4, g5⟩ := g3
      have hlen : ∀ {es : List (Cell × AV)} {l : List MapEntry}, EsR ρ es l → l.length = es.length := by
        intro es
        induction es with
        | nil => intro l h; simp only [EsR] at h; subst h; rfl
        | cons x es ih => intro l h; obtain ⟨c, v⟩ := x; obtain ⟨e, es', _, _, h3, h4⟩ := h; subst h4; simp [ih h3]
      have := hlen g4
      refine SemR.q hr hf (V := .int .i64 ents.size) (by simp [Builtin.len_, ht, run_underlying hu, goInt, run_getMap g2]) ?_
      have e : ents.size = es.length := by simpa using this
      rw [e]; rfl
  · rename_i n e hu
    simp only [intQ, Option.some.injEq] at h; subst h
    exact SemR.q hr hf (V := .int .i64 _) (by simp [Builtin.len_, ht, run_underlying hu, goInt]) rfl
  · cases h

omit hr in
/-- the same heap, but for draws -/
theorem SemR.same {s : Sem Value} {v : RV} {nd : List Nat} {fz : Bool} {V : Value} {w' : World} (hr : HRel ρ hp w) (h : s.run P w = .ok V w') (h0 : w'.heap = w.heap) (h1 : w'.os = w.os) (h2 : w'.tape = w.tape) (h3 : w'.output = w.output) (hv : RVR ρ v V) : SemR P ρ hp nx w s ⟨v, .none, nd, fz⟩ :=
  ⟨V, w', ρ, h, hv, ⟨fun nm x hx => by rw [h0]; exact hr.ok nm x hx, hr.inj, hr.fz.of (fun _ _ h => h) (fun _ _ _ => by rw [h0]) fun nm x b c hx hw he => .inl ⟨nm, x, c, hx, hw, he⟩⟩, hf, Stp.draw hf h0 h1 h2 h3⟩

theorem copyRes_ok {ts : Array TypeId} {ty : TypeId} {d s : RV} {D S : Value} (h : copyRes P hp ts d s = some r) (hd : RVR ρ d D) (hs : RVR ρ s S) : SemR P ρ hp nx w (Builtin.copy_ ts ty #[D, S]) r := by
  unfold copyRes at h
  split at h <;> try (cases h; done)
  rename_i dt dc sc ht
  have ed : CR ρ dc D := hd
  have es : CR ρ sc S := hs
  split at h <;> try (cases h; done)
  rename_i e hu
  split at h <;> try (cases h; done)
  rename_i ti hti
  split at h <;> try (cases h; done)
  · rename_i hp0
    split at h <;> try (cases h; done)
    rename_i fr0 m0 bd0 hsb
    simp only [Option.some.injEq] at h; subst h
    have hS : ∃ l, (Builtin.lenOf S).run P w = .ok l w ∧ (Builtin.firstCells ti.size 0 S).run P w = .ok #[] w := by
      obtain ⟨l, us, q1, q2, q3, q4, _⟩ := srcBody_ok (P := P) hr hsb es
      have h0 : m0 = 0 := by rw [q2]; simp [lenBy]
      subst h0
      have : us = [] := List.length_eq_zero_iff.1 (by rw [q4]; simp)
      subst this
      exact ⟨l, q1 w, q3 w rfl⟩
    obtain ⟨l, q1, q2⟩ := hS
    refine SemR.q hr hf (V := .int .i64 0) ?_ rfl
    rcases sliceParts_nil hp0 ed with rfl | ⟨A, cap, rfl⟩
    · simp [Builtin.copy_, ht, run_underlying hu, q1, run_sz hti, q2, goInt]
    · simp [Builtin.copy_, ht, run_underlying hu, q1, run_sz hti, q2, goInt, storeCells]
  · rename_i nm off len hp0
    obtain ⟨b, c, cap, e1, rfl⟩ := sliceParts_ok hp0 ed
    unfold copyTo at h
    split at h <;> try (cases h; done)
    rename_i from_ n x hsrc
    obtain ⟨l, us, q1, q2, q3, q4, q5⟩ := srcBody_ok (P := P) hr hsrc es
    have hn : Nat.min l len = n := by rw [q2]; rfl
    replace q1 := q1 w
    replace q3 := q3 w rfl
    split at h
    · simp only [Option.some.injEq] at h; subst h
      have : us = [] := List.length_eq_zero_iff.1 (by rw [q4]; simp)
      subst this
      refine SemR.q hr hf (V := .int .i64 0) ?_ rfl
      simp [Builtin.copy_, ht, run_underlying hu, q1, run_sz hti, hn, q3, goInt, storeCells]
    · rename_i m
      split at h <;> try (cases h; done)
      rename_i xb
      split at h <;> try (cases h; done)
      rename_i t o bd hrow
      split at h <;> try (cases h; done)
      rename_i bd' hput
      simp only [Option.some.injEq] at h; subst h
      obtain ⟨hblk, bl, cc, vs, tail, fr, g1, g2, g3, g4, g5⟩ := row_ok hr hrow
      rw [e1] at g1
      simp only [Option.some.injEq, Prod.mk.injEq] at g1
      obtain ⟨rfl, rfl⟩ := g1
      have hxb := q5 _ rfl
      obtain ⟨k1, k2⟩ := Body.put_ok hput g3 hxb
      have := g4 rfl
      subst this
      obtain ⟨w', p1, p2⟩ := wrRow (P := P) hr hf (v := .one (.c (.int .i64 (m + 1 : Nat)))) (V := .int .i64 (m + 1 : Nat)) hblk e1 g2 g5 k1 hxb.one k2 rfl
      refine ⟨_, w', ρ, ?_, p2⟩
      simp [Builtin.copy_, ht, run_underlying hu, q1, hn, run_sz hti, q3, p1, goInt]

end ops
end Go.Sx

namespace Go.Sx
variable {P : Program} {ρ : Rho} {w : World} {hp : Hp} {nx : Nat}

theorem run_append_in {ts : Array TypeId} {ty dt e : TypeId} {ti : TypeInfo} {base : Option Addr} {sLen sCap n : Nat} {S : Value} {us : List Value} (ht : ts[0]? = some dt) (hu : P.underlying dt = some (.slice e)) (hti : P.info? e = some ti)
    (harg : appArg P ts = true) (hl : (Builtin.lenOf S).run P w = .ok n w) (hfit : sLen + n ≤ sCap) (hfc : (Builtin.firstCells ti.size n S).run P w = .ok us.toArray w) :
    (Builtin.append_ ts ty #[.slice base sLen sCap, S]).run P w =
      (do if let some a := base then storeCells (a.add (sLen * ti.size)) us
          pure (.slice base (sLen + n) sCap) : Sem Value).run P w := by
  unfold appArg at harg
  split at harg <;> try (cases harg; done)
  rename_i xt hxt
  have hz : (∃ d, P.underlying xt = some (.slice d)) ∨ P.underlying xt = some .string := by
    split at harg
    · exact .inl ⟨_, by assumption⟩
    · exact .inr (by assumption)
    · cases harg
  rcases hz with ⟨d, hd⟩ | hd
  · simp [Builtin.append_, ht, hxt, run_underlying hu, run_underlying hd, run_sz hti, hl, hfit, hfc]
    cases base <;> rfl
  · simp [Builtin.append_, ht, hxt, run_underlying hu, run_underlying hd, run_sz hti, hl, hfit, hfc]
    cases base <;> rfl

theorem run_append_new {ts : Array TypeId} {ty dt e : TypeId} {ti : TypeInfo} {base : Option Addr} {sLen sCap n : Nat} {S zv : Value} {us old : List Value} (ht : ts[0]? = some dt) (hu : P.underlying dt = some (.slice e)) (hti : P.info? e = some ti)
    (harg : appArg P ts = true) (hl : ∀ w : World, (Builtin.lenOf S).run P w = .ok n w) (hfit : sCap < sLen + n) (hf : fits ti (sLen + n) = true)
    (hfc : ∀ w', w'.heap = w.heap → (Builtin.firstCells ti.size n S).run P w' = .ok us.toArray w') (hold : ∀ w', w'.heap = w.heap → (Builtin.firstCells ti.size sLen (.slice base sLen sCap)).run P w' = .ok old.toArray w')
    (hz : ∀ w : World, (zeroValue e).run P w = .ok zv w) (hzs : zv.cells.size = ti.size) :
    ∃ c tail w', (Builtin.append_ ts ty #[.slice base sLen sCap, S]).run P w = .ok (.slice (some ⟨w.heap.size, 0, none⟩) (sLen + n) c) w' ∧
      NewW w (.cells (old ++ us ++ tail).toArray e) w' ∧ sLen + n ≤ c ∧ tail.length = (c - (sLen + n)) * ti.size ∧ c ≤ 9223372036854775807 := by
  unfold appArg at harg
  split at harg <;> try (cases harg; done)
  rename_i xt hxt
  have hz' : (∃ d, P.underlying xt = some (.slice d)) ∨ P.underlying xt = some .string := by
    split at harg
    · exact .inl ⟨_, by assumption⟩
    · exact .inr (by assumption)
    · cases harg
  simp only [fits, Bool.and_eq_true] at hf
  obtain ⟨hb1, hb2⟩ := hf
  have hb1 : 1 ≤ ti.bytes := Nat.le_of_ble_eq_true hb1
  have hb2 : (sLen + n) * ti.bytes ≤ 140737488355328 := Nat.le_of_ble_eq_true hb2
  have hgrow := growslice_fits hfit hb2
  have hnot : ¬ (sLen + n ≤ sCap) := by omega
  have hb0 : ti.bytes ≠ 0 := by omega
  have hgt : ¬ (Builtin.nextslicecap (sLen + n) sCap * ti.bytes > 2 ^ 48) := by omega
  let q : Question := .appendCap (sLen + n) sCap e
  let c := q.cut (w.tape w.drawn q)
  let w1 : World := { w with drawn := w.drawn + 1 }
  have hcle : sLen + n ≤ c := by show sLen + n ≤ (sLen + n) + _; omega
  refine ⟨c, Array.toList (Builtin.zeroCells zv.cells (c - (sLen + n))), { w1 with heap := w1.heap.push (.cells (old ++ us ++ (Builtin.zeroCells zv.cells (c - (sLen + n))).toList).toArray e) }, ?_, ⟨rfl, rfl, rfl, rfl⟩, hcle, ?_, ?_⟩
  · have hgt' : ¬ (281474976710656 < Builtin.nextslicecap (sLen + n) sCap * ti.bytes) := by omega
    have hq : (Question.appendCap (sLen + n) sCap e).forced = false := rfl
    have fin : (if (Question.appendCap (sLen + n) sCap e).forced = true then
      (Sem.run P (Builtin.firstCells ti.size sLen (Value.slice base sLen sCap)) w).andThen fun a w' =>
        (Sem.run P (Builtin.firstCells ti.size n S) w').andThen fun a_1 w' =>
          (Sem.run P (zeroValue e) w').andThen fun a_2 w' =>
            (Sem.run P (newRow e (a ++ (a_1 ++ Builtin.zeroCells a_2.cells 0))) w').andThen fun a w' =>
              Result.ok (Value.slice (some a) (sLen + n) 0) w'
    else
      (Sem.run P (Builtin.firstCells ti.size sLen (Value.slice base sLen sCap)) w.drew).andThen fun a w' =>
        (Sem.run P (Builtin.firstCells ti.size n S) w').andThen fun a_1 w' =>
          (Sem.run P (zeroValue e) w').andThen fun a_2 w' =>
            (Sem.run P (newRow e (a ++ (a_1 ++ Builtin.zeroCells a_2.cells ((Question.appendCap (sLen + n) sCap e).cut (w.tape w.drawn (Question.appendCap (sLen + n) sCap e)) - (sLen + n))))) w').andThen fun a w' =>
              Result.ok (Value.slice (some a) (sLen + n) ((Question.appendCap (sLen + n) sCap e).cut (w.tape w.drawn (Question.appendCap (sLen + n) sCap e)))) w') =
      Result.ok (Value.slice (some { block := w.heap.size, off := 0 }) (sLen + n) c)
        (w1.alloc (Obj.cells (old ++ (us ++ (Builtin.zeroCells zv.cells (c - (sLen + n))).toList)).toArray e)) := by
      rw [hq]
      simp only [Bool.false_eq_true, if_false]
      rw [hold w.drew rfl]
      simp only [Result.andThen_ok]
      rw [hfc w.drew rfl]
      simp only [Result.andThen_ok, hz, newRow, Sem.run_bind, run_newObj, Sem.run_pure]
      show Result.ok _ _ = Result.ok _ _
      congr 1
      show w1.alloc _ = w1.alloc _
      congr 2
      apply Array.toList_inj.1
      simp [c, q]
    rcases hz' with ⟨d, hd⟩ | hd
    · simpa [Builtin.append_, ht, hxt, run_underlying hu, run_underlying hd, run_sz hti, hl, hnot, run_tInfo hti, hb0, hgt'] using fin
    · simpa [Builtin.append_, ht, hxt, run_underlying hu, run_underlying hd, run_sz hti, hl, hnot, run_tInfo hti, hb0, hgt'] using fin
  · simp [Builtin.zeroCells, hzs]
  · exact grownCap_le_maxLen w (sLen + n) sCap e (by
      show sLen + n ≤ 9223372036854775807
      have := Nat.mul_le_mul_left (sLen + n) hb1
      omega)

end Go.Sx
