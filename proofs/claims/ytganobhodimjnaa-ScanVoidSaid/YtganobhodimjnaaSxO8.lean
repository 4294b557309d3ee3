/-
  A part of the executor Sx over the model's code (any program): its words, or its proof; no seat's statement stands here.
-/
import Derived.Test.YtganobhodimjnaaSxO7
namespace Go.Sx
variable {P : Program} {ρ : Rho} {w : World} {hp : Hp} {nx : Nat}

theorem HRel.sub {hp' : Hp} (hr : HRel ρ hp w) (h : ∀ i x, hp' i = some x → hp i = some x) : HRel ρ hp' w :=
  ⟨fun nm x hx => hr.ok nm x (h _ _ hx), fun nm nm' x y b c c' hx hy hw h1 h2 => hr.inj nm nm' x y b c c' (h _ _ hx) (h _ _ hy) hw h1 h2⟩

theorem upd_none_sub {nm : Nat} : ∀ i x, upd hp nm none i = some x → hp i = some x := by
  intro i x h
  by_cases e : i = nm
  · subst e; rw [upd_same] at h; cases h
  · rwa [upd_ne _ _ e] at h

theorem HRel.mvNew {w' : World} {nm c : Nat} {x y : Blk} {o : Obj} {v : RV} {V : Value} (hr : HRel ρ hp w) (hf : Fresh ρ nx) (hx : hp nm = some x) (hw : x.wr = true)
    (ho : BlkR (ext ρ nx w.heap.size c) c y o) (hW : NewW w o w') (hv : RVR (ext ρ nx w.heap.size c) v V) : Out ρ hp nx w (.mv nm y) v V (ext ρ nx w.heap.size c) w' := by
  have h := (hr.sub (hp' := upd hp nm none) upd_none_sub).newOut hf ho hW hv
  refine ⟨h.val, h.rel, h.fresh, ?_⟩
  have s := h.stp
  constructor
  · exact s.le
  · exact s.rho
  · intro i hi hL
    have hL : i ≠ nm := by simpa [Upd.log] using hL
    rw [show (Upd.mv nm y).hp hp nx = (Upd.new y).hp (upd hp nm none) nx from rfl, s.keep i hi (by simp [Upd.log]), upd_ne _ _ hL]
  · exact s.size
  · exact fun b hb _ => s.frame b hb (by simp [Upd.log])
  · intro i b' c' hi he
    rcases s.new i b' c' hi he with h' | ⟨_, _, hm, _⟩
    · exact .inl h'
    · simp [Upd.log] at hm
  · intro i hi _
    simp only [Upd.log, List.mem_singleton] at hi
    subst hi
    exact ⟨x, hx, hw⟩
  · exact s.os
  · exact s.tape
  · exact s.out

theorem HRel.mvIn {w' : World} {nm b c : Nat} {x y : Blk} {o : Obj} {v : RV} {V : Value} (hr : HRel ρ hp w) (hf : Fresh ρ nx)
    (hx : hp nm = some x) (hw : x.wr = true) (hb : ρ nm = some (b, c)) (ho : BlkR (ext ρ nx b c) c y o) (hW : WrW w b o w') (hv : RVR (ext ρ nx b c) v V) :
    Out ρ hp nx w (.mv nm y) v V (ext ρ nx b c) w' := by
  have hnm : nm < nx := by
    rcases Nat.lt_or_ge nm nx with h | h
    · exact h
    · rw [hf nm h] at hb; cases hb
  have old : ∀ i b' c', i ≠ nx → ext ρ nx b c i = some (b', c') → ρ i = some (b', c') := by
    intro i b' c' h e; simpa [ext, h] using e
  have get : ∀ i z, i ≠ nx → (Upd.mv nm y).hp hp nx i = some z → i ≠ nm ∧ hp i = some z := by
    intro i z h e
    simp only [Upd.hp, upd_ne _ _ h] at e
    by_cases e' : i = nm
    · subst e'; rw [upd_same] at e; cases e
    · exact ⟨e', by rwa [upd_ne _ _ e'] at e⟩
  constructor
  · exact hv
  · constructor
    · intro i z hz
      by_cases h : i = nx
      · subst h
        simp only [Upd.hp, upd_same, Option.some.injEq] at hz
        subst hz
        exact ⟨b, c, o, by simp [ext], hW.at_, ho⟩
      · obtain ⟨h1, h2⟩ := get i z h hz
        obtain ⟨b', c', o', g1, g2, g3⟩ := hr.ok i z h2
        refine ⟨b', c', o', by simp [ext, h, g1], ?_, g3.mono (ext_sub hf _ _)⟩
        rw [hW.other b' fun e => ?_, g2]
        subst e
        exact h1 (hr.inj nm i x z _ _ _ hx h2 hw hb g1).symm
    · intro i j p q b1 c1 c2 hp1 hq1 hpw h1 h2
      by_cases hi : i = nx <;> by_cases hj : j = nx
      · rw [hi, hj]
      · subst hi
        obtain ⟨k1, k2⟩ := get j q hj hq1
        simp [ext] at h1
        have := old j _ _ hj h2
        rw [← h1.1] at this
        exact absurd (hr.inj nm j x q _ _ _ hx k2 hw hb this).symm k1
      · subst hj
        obtain ⟨k1, k2⟩ := get i p hi hp1
        simp [ext] at h2
        have := old i _ _ hi h1
        rw [← h2.1] at this
        exact absurd (hr.inj nm i x p _ _ _ hx k2 hw hb this).symm k1
      · obtain ⟨k1, k2⟩ := get i p hi hp1
        obtain ⟨k3, k4⟩ := get j q hj hq1
        exact hr.inj _ _ _ _ _ _ _ k2 k4 hpw (old i _ _ hi h1) (old j _ _ hj h2)
  · intro i hi
    simp only [Upd.nx] at hi
    have : i ≠ nx := by omega
    simp [ext, this, hf i (by omega)]
  · constructor
    · simp [Upd.nx]
    · intro i hi
      have : i ≠ nx := by omega
      simp [ext, this]
    · intro i hi hL
      have hL : i ≠ nm := by simpa [Upd.log] using hL
      have : i ≠ nx := by omega
      simp [Upd.hp, upd_ne _ _ this, upd_ne _ _ hL]
    · rw [hW.size]; exact Nat.le_refl _
    · intro i hi hL
      refine hW.other i fun e => ?_
      subst e
      exact hL nm c (by simp [Upd.log]) hnm hb
    · intro i b' c' hi he
      by_cases h : i = nx
      · subst h; simp [ext] at he; exact .inr ⟨nm, c, by simp [Upd.log], hnm, by rw [hb, he.1]⟩
      · have he := old i _ _ h he
        rw [hf i hi] at he; cases he
    · intro i hi _
      simp only [Upd.log, List.mem_singleton] at hi
      subst hi
      exact ⟨x, hx, hw⟩
    · exact hW.os
    · exact hW.tape
    · exact hW.out

/-! ## Pieces of bodies -/
theorem Body.cut_ok {b b' : Body} {off n : Nat} (h : b.cut off n = some b') {vs : List Value} (hb : BodyR ρ b vs) : off + n ≤ vs.length ∧ BodyR ρ b' ((vs.drop off).take n) := by
  have hl := hb.length
  cases b with
  | cells l =>
    simp only [Body.cut] at h
    split at h <;> try (cases h; done)
    simp only [Option.some.injEq] at h; subst h
    exact ⟨by simp [Body.size] at hl; omega, (CsR.drop hb off).take n⟩
  | ints k l m =>
    simp only [Body.cut] at h
    split at h <;> try (cases h; done)
    obtain ⟨h1, rfl⟩ := hb
    simp only [Option.some.injEq] at h; subst h
    exact ⟨by simp; omega, by simp; omega, by simp [List.map_take, List.map_drop]⟩

theorem Body.put_ok {b b' x : Body} {off : Nat} (h : b.put off x = some b') {vs us : List Value} (hb : BodyR ρ b vs) (hx : BodyR ρ x us) : off + us.length ≤ vs.length ∧ BodyR ρ b' (over vs off us) := by
  have hl := hb.length
  cases b with
  | cells l =>
    cases x with
    | cells x =>
      simp only [Body.put] at h
      split at h <;> try (cases h; done)
      simp only [Option.some.injEq] at h; subst h
      have := CsR.length hx
      exact ⟨by simp [Body.size] at hl; omega, CsR.over hb hx off⟩
    | ints k x m =>
      simp only [Body.put] at h
      split at h <;> try (cases h; done)
      obtain ⟨h1, rfl⟩ := hx
      simp only [Option.some.injEq] at h; subst h
      exact ⟨by simp [Body.size] at hl ⊢; omega, CsR.over hb (CsR.ints k x) off⟩
  | ints k l n =>
    cases x with
    | cells x => simp [Body.put] at h
    | ints k' x m =>
      simp only [Body.put] at h
      split at h <;> try (cases h; done)
      rename_i hc
      obtain ⟨rfl, hc⟩ := hc
      obtain ⟨h1, rfl⟩ := hb
      obtain ⟨h2, rfl⟩ := hx
      simp only [Option.some.injEq] at h; subst h
      refine ⟨by simp; omega, ?_, ?_⟩
      · rw [over_length _ _ _ (by omega)]; exact h1
      · simp [over, List.map_append, List.map_take, List.map_drop]

theorem Body.cat_ok {b b' x : Body} (h : b.cat x = some b') {vs us : List Value} (hb : BodyR ρ b vs) (hx : BodyR ρ x us) : BodyR ρ b' (vs ++ us) := by
  cases b with
  | cells l =>
    cases x with
    | cells x =>
      simp only [Body.cat, Option.some.injEq] at h; subst h
      exact CsR.append hb hx
    | ints k x m =>
      obtain ⟨h1, rfl⟩ := hx
      simp only [Body.cat, Option.some.injEq] at h; subst h
      exact CsR.append hb (CsR.ints k x)
  | ints k l n =>
    cases x with
    | cells x => simp [Body.cat] at h
    | ints k' x m =>
      simp only [Body.cat] at h
      split at h <;> try (cases h; done)
      rename_i hk
      subst hk
      obtain ⟨h1, rfl⟩ := hb
      obtain ⟨h2, rfl⟩ := hx
      simp only [Option.some.injEq] at h; subst h
      exact ⟨by simp [h1, h2], by simp⟩

theorem BodyR.one {b : Body} {vs : List Value} (h : BodyR ρ b vs) : ∀ v ∈ vs, v.oneCell' = true := by
  cases b with
  | cells l => exact CsR.one h
  | ints k l n => obtain ⟨_, rfl⟩ := h; exact CsR.one (CsR.ints (ρ := ρ) k l)

/-- where a slice's cells are -/
theorem sliceParts_ok {x : Cell} {s nm off len : Nat} (h : sliceParts x s = some (some (nm, off, len))) {X : Value} (hx : CR ρ x X) :
    ∃ b c cap, ρ nm = some (b, c) ∧ X = .slice (some ⟨b, off, none⟩) len cap := by
  unfold sliceParts at h
  split at h <;> try (cases h; done)
  · simp only [Option.some.injEq, Prod.mk.injEq] at h
    obtain ⟨rfl, rfl, rfl⟩ := h
    obtain ⟨b, c, e1, e2⟩ := hx
    exact ⟨b, c, _, e1, e2⟩
  · split at h <;> try (cases h; done)
    rename_i hs
    subst hs
    simp only [Option.some.injEq, Prod.mk.injEq] at h
    obtain ⟨rfl, rfl, rfl⟩ := h
    obtain ⟨b, c, e1, _, e2⟩ := hx
    exact ⟨b, c, _, e1, e2⟩

theorem sliceParts_nil {x : Cell} {s : Nat} (h : sliceParts x s = some none) {X : Value} (hx : CR ρ x X) : X = .slice none 0 0 := by
  unfold sliceParts at h
  split at h <;> try (cases h; done)
  · exact hx
  · split at h <;> cases h

theorem srcBody_ok {x : Cell} {s : Nat} {n : Option Nat} {from_ : Option Nat} {m : Nat} {bd : Option Body} (hr : HRel ρ hp w) (h : srcBody hp s n x = some (from_, m, bd)) {X : Value} (hx : CR ρ x X) :
    ∃ l us, (∀ w' : World, (Builtin.lenOf X).run P w' = .ok l w') ∧ m = lenBy n l ∧ (∀ w' : World, w'.heap = w.heap → (Builtin.firstCells s m X).run P w' = .ok us.toArray w') ∧ us.length = m * s ∧ ∀ b, bd = some b → BodyR ρ b us := by
  unfold srcBody at h
  split at h
  · rename_i st
    simp only [CR] at hx
    subst hx
    split at h <;> try (cases h; done)
    rename_i hs1
    subst hs1
    simp only [Option.some.injEq, Prod.mk.injEq] at h
    obtain ⟨_, hm, hb⟩ := h
    have hle : m ≤ st.size := by rw [← hm]; cases n <;> simp [lenBy]; omega
    have hsz : st.data.size = st.size := rfl
    refine ⟨st.size, ((st.data.toList.map fun x => (x.toNat : Int)).take m).map (Value.int .u8), fun _ => by simp [Builtin.lenOf], hm.symm, fun w' _ => ?_, ?_, ?_⟩
    · simp only [Builtin.firstCells, Sem.run_pure]
      congr 1
      apply Array.toList_inj.1
      simp [List.map_take, ByteArray.data_extract]
      rfl
    · simp; omega
    · intro b hb'
      rw [← hb] at hb'
      simp only [Option.some.injEq] at hb'
      subst hb'
      rw [hm]
      exact ⟨by simp; omega, rfl⟩
  · split at h <;> try (cases h; done)
    · rename_i hs
      simp only [Option.some.injEq, Prod.mk.injEq] at h
      obtain ⟨_, rfl, rfl⟩ := h
      have := sliceParts_nil hs hx
      subst this
      exact ⟨0, [], fun _ => by simp [Builtin.lenOf], by cases n <;> simp [lenBy], fun _ _ => by simp [Builtin.firstCells], by simp, by simp⟩
    · rename_i nm off len hs
      obtain ⟨b, c, cap, e1, rfl⟩ := sliceParts_ok hs hx
      split at h <;> try (cases h; done)
      rename_i t ro opn bd' hrow
      split at h <;> try (cases h; done)
      rename_i b2 hcut
      simp only [Option.some.injEq, Prod.mk.injEq] at h
      obtain ⟨_, hm, rfl⟩ := h
      obtain ⟨hblk, bl, cc, vs, tail, fr, g1, g2, g3, _, _⟩ := row_ok hr hrow
      rw [e1] at g1
      simp only [Option.some.injEq, Prod.mk.injEq] at g1
      obtain ⟨rfl, rfl⟩ := g1
      obtain ⟨k1, k2⟩ := Body.cut_ok hcut g3
      rw [hm] at k1 k2
      refine ⟨len, (vs.drop off).take (m * s), fun _ => by simp [Builtin.lenOf], hm.symm, fun w' hw' => ?_, by simp; omega, ?_⟩
      · simp only [Builtin.firstCells]
        rw [run_loadRow (w := w') (by rw [hw']; exact g2) (m * s) (by simp; omega)]
        congr 2
        simp only
        rw [List.drop_append_of_le_length (by omega), List.take_append_of_le_length (by simp; omega)]
      · intro b hb'
        simp only [Option.some.injEq] at hb'
        subst hb'
        exact k2

section ops
variable {r : Res} (hr : HRel ρ hp w) (hf : Fresh ρ nx)
include hr hf

theorem lenRes_ok {ts : Array TypeId} {ty : TypeId} {x : RV} {X : Value} (h : lenRes P hp ts x = some r) (hx : RVR ρ x X) : SemR P ρ hp nx w (Builtin.len_ ts ty #[X]) r := by
  unfold lenRes at h
  split at h <;> try (cases h; done)
  rename_i t ht
  split at h
  · rename_i hu
    split at h <;> try (cases h; done)
    simp only [intQ, Option.some.injEq] at h; subst h
    simp only [RVR, AVR, CR] at hx; subst hx
    exact SemR.q hr hf (V := .int .i64 _) (by simp [Builtin.len_, ht, run_underlying hu, goInt]) rfl
  · rename_i e hu
    unfold lenSl at h
    split at h <;> try (cases h; done)
    all_goals
      simp only [intQ, Option.some.injEq] at h; subst h
    · simp only [RVR, AVR, CR] at hx; subst hx
      exact SemR.q hr hf (V := .int .i64 _) (by simp [Builtin.len_, ht, run_underlying hu, goInt]) rfl
    · obtain ⟨_, _, _, rfl⟩ := hx
      exact SemR.q hr hf (V := .int .i64 _) (by simp [Builtin.len_, ht, run_underlying hu, goInt]) rfl
    · obtain ⟨_, _, _, _, rfl⟩ := hx
      exact SemR.q hr hf (V := .int .i64 _) (by simp [Builtin.len_, ht, run_underlying hu, goInt]) rfl
  · rename_i k e hu
    unfold lenMap at h
    split at h <;> try (cases h; done)
    · simp only [intQ, Option.some.injEq] at h; subst h
      simp only [RVR, AVR, CR] at hx; subst hx
      exact SemR.q hr hf (V := .int .i64 _) (by simp [Builtin.len_, ht, run_underlying hu, goInt]) rfl
    · split at h <;> try (cases h; done)
      rename_i es hblk
      simp only [intQ, Option.some.injEq] at h; subst h
      obtain ⟨b, c, e1, rfl⟩ := hx
      obtain ⟨b', c', o, g1, g2, g3⟩ := hr.ok _ _ hblk
      rw [e1] at g1
      simp only [Option.some.injEq, Prod.mk.injEq] at g1
      obtain ⟨rfl, rfl⟩ := g1
      obtain ⟨ents, cl, rfl, g4⟩ := g3
      have hlen : ∀ {es : List (Cell × AV)} {l : List MapEntry}, EsR ρ es l → l.length = es.length := by
        intro es
        induction es with
        | nil => intro l h; simp only [EsR] at h; subst h; rfl
        | cons x es ih => intro l h; obtain ⟨c, v⟩ := x; obtain ⟨e, es', _, _, h3, h4⟩ := h; subst h4; simp [ih h3]
      have := hlen g4
      refine SemR.q hr hf (V := .int .i64 ents.size) (by simp [Builtin.len_, ht, run_underlying hu, goInt, run_getMap g2]) ?_
      have e : ents.size = es.length := by simpa using this
      rw [e]; rfl
  · rename_i n e hu
    simp only [intQ, Option.some.injEq] at h; subst h
    exact SemR.q hr hf (V := .int .i64 _) (by simp [Builtin.len_, ht, run_underlying hu, goInt]) rfl
  · cases h

omit hr in
/-- the same heap, but for draws -/
theorem SemR.same {s : Sem Value} {v : RV} {nd : List Nat} {fz : Bool} {V : Value} {w' : World} (hr : HRel ρ hp w) (h : s.run P w = .ok V w') (h0 : w'.heap = w.heap) (h1 : w'.os = w.os) (h2 : w'.tape = w.tape) (h3 : w'.output = w.output) (hv : RVR ρ v V) : SemR P ρ hp nx w s ⟨v, .none, nd, fz⟩ :=
  ⟨V, w', ρ, h, hv, ⟨fun nm x hx => by rw [h0]; exact hr.ok nm x hx, hr.inj⟩, hf, Stp.draw hf h0 h1 h2 h3⟩

theorem copyRes_ok {ts : Array TypeId} {ty : TypeId} {d s : RV} {D S : Value} (h : copyRes P hp ts d s = some r) (hd : RVR ρ d D) (hs : RVR ρ s S) : SemR P ρ hp nx w (Builtin.copy_ ts ty #[D, S]) r := by
  unfold copyRes at h
  split at h <;> try (cases h; done)
  rename_i dt dc sc ht
  have ed : CR ρ dc D := hd
  have es : CR ρ sc S := hs
  split at h <;> try (cases h; done)
  rename_i e hu
  split at h <;> try (cases h; done)
  rename_i ti hti
  split at h <;> try (cases h; done)
  · rename_i hp0
    split at h <;> try (cases h; done)
    rename_i fr0 m0 bd0 hsb
    simp only [Option.some.injEq] at h; subst h
    have := sliceParts_nil hp0 ed
    subst this
    have hS : ∃ l, (Builtin.lenOf S).run P w = .ok l w ∧ (Builtin.firstCells ti.size 0 S).run P w = .ok #[] w := by
      obtain ⟨l, us, q1, q2, q3, q4, _⟩ := srcBody_ok (P := P) hr hsb es
      have h0 : m0 = 0 := by rw [q2]; simp [lenBy]
      subst h0
      have : us = [] := List.length_eq_zero_iff.1 (by rw [q4]; simp)
      subst this
      exact ⟨l, q1 w, q3 w rfl⟩
    obtain ⟨l, q1, q2⟩ := hS
    refine SemR.q hr hf (V := .int .i64 0) ?_ rfl
    simp [Builtin.copy_, ht, run_underlying hu, q1, run_sz hti, q2, goInt]
  · rename_i nm off len hp0
    obtain ⟨b, c, cap, e1, rfl⟩ := sliceParts_ok hp0 ed
    unfold copyTo at h
    split at h <;> try (cases h; done)
    rename_i from_ n x hsrc
    obtain ⟨l, us, q1, q2, q3, q4, q5⟩ := srcBody_ok (P := P) hr hsrc es
    have hn : Nat.min l len = n := by rw [q2]; rfl
    replace q1 := q1 w
    replace q3 := q3 w rfl
    split at h
    · simp only [Option.some.injEq] at h; subst h
      have : us = [] := List.length_eq_zero_iff.1 (by rw [q4]; simp)
      subst this
      refine SemR.q hr hf (V := .int .i64 0) ?_ rfl
      simp [Builtin.copy_, ht, run_underlying hu, q1, run_sz hti, hn, q3, goInt, storeCells]
    · rename_i m
      split at h <;> try (cases h; done)
      rename_i xb
      split at h <;> try (cases h; done)
      rename_i t o bd hrow
      split at h <;> try (cases h; done)
      rename_i bd' hput
      simp only [Option.some.injEq] at h; subst h
      obtain ⟨hblk, bl, cc, vs, tail, fr, g1, g2, g3, g4, g5⟩ := row_ok hr hrow
      rw [e1] at g1
      simp only [Option.some.injEq, Prod.mk.injEq] at g1
      obtain ⟨rfl, rfl⟩ := g1
      have hxb := q5 _ rfl
      obtain ⟨k1, k2⟩ := Body.put_ok hput g3 hxb
      have := g4 rfl
      subst this
      obtain ⟨w', p1, p2⟩ := wrRow (P := P) hr hf (v := .one (.c (.int .i64 (m + 1 : Nat)))) (V := .int .i64 (m + 1 : Nat)) hblk e1 g2 g5 k1 hxb.one k2 rfl
      refine ⟨_, w', ρ, ?_, p2⟩
      simp [Builtin.copy_, ht, run_underlying hu, q1, hn, run_sz hti, q3, p1, goInt]

end ops
end Go.Sx
