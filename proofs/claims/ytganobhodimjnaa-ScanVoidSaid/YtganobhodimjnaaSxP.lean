/-
  A part of the executor Sx over the model's code (any program): its words, or its proof; no seat's statement stands here.
-/
import Derived.Test.YtganobhodimjnaaSxO9
namespace Go.Sx
variable {P : Program} {ρ : Rho} {w : World} {hp : Hp} {nx : Nat}

theorem zeroAny {t : TypeId} {zv : Value} {w : World} (h : (zeroValue t).run P w = .ok zv w) (w' : World) : (zeroValue t).run P w' = .ok zv w' := by
  unfold zeroValue typeInfo at h ⊢
  simp only [Sem.run_bind, run_program, Result.andThen_ok] at h ⊢
  cases hi : P.info? t with
  | none => rw [hi] at h; simp [Result.andThen] at h
  | some i =>
    rw [hi] at h
    simp only [Sem.run_pure, Result.andThen_ok] at h ⊢
    cases hz : i.zero with
    | none => rw [hz] at h; simp at h
    | some v => rw [hz] at h; simp at h ⊢; exact h

theorem rowCut_ok {nm off n bl c : Nat} {b : Body} (hr : HRel ρ hp w) (h : rowCut hp nm off n = some b) (e : ρ nm = some (bl, c)) :
    ∃ us, (∀ w' : World, w'.heap = w.heap → (loadCells ⟨bl, off, none⟩ n).run P w' = .ok us.toArray w') ∧ us.length = n ∧ BodyR ρ b us := by
  unfold rowCut at h
  split at h <;> try (cases h; done)
  rename_i t ro opn bd hrow
  obtain ⟨hblk, bl', c', vs, tail, fr, g1, g2, g3, _, _⟩ := row_ok hr hrow
  rw [e] at g1
  simp only [Option.some.injEq, Prod.mk.injEq] at g1
  obtain ⟨rfl, rfl⟩ := g1
  obtain ⟨k1, k2⟩ := Body.cut_ok h g3
  refine ⟨(vs.drop off).take n, fun w' hw' => ?_, by simp; omega, k2⟩
  rw [run_loadRow (w := w') (by rw [hw']; exact g2) n (by simp; omega)]
  congr 2
  simp only
  rw [List.drop_append_of_le_length (by omega), List.take_append_of_le_length (by simp; omega)]

section ops
variable {r : Res} (hr : HRel ρ hp w) (hf : Fresh ρ nx)
include hr hf

theorem appendRes_ok {ts : Array TypeId} {ty : TypeId} {d s : RV} {D S : Value} (h : appendRes P hp nx ts d s = some r) (hd : RVR ρ d D) (hs : RVR ρ s S) : SemR P ρ hp nx w (Builtin.append_ ts ty #[D, S]) r := by
  unfold appendRes at h
  split at h <;> try (cases h; done)
  rename_i dt dc sc ht
  have ed : CR ρ dc D := hd
  have es : CR ρ sc S := hs
  split at h <;> try (cases h; done)
  rename_i e hu
  split at h <;> try (cases h; done)
  rename_i ti hti
  split at h <;> try (cases h; done)
  rename_i z hz
  split at h <;> try (cases h; done)
  rename_i hcond
  obtain ⟨hzs, harg⟩ := hcond
  obtain ⟨zv, z1, z2⟩ := zeroAV_ok (w := w) (ρ := ρ) hz
  obtain ⟨_, _, c3⟩ := z2.cells
  have hz1 : ∀ w', (zeroValue e).run P w' = .ok zv w' := zeroAny z1
  unfold appGo at h
  split at h <;> try (cases h; done)
  rename_i from_ n x hsrc
  obtain ⟨l, us, q1, q2, q3, q4, q5⟩ := srcBody_ok (P := P) hr hsrc es
  simp only [lenBy] at q2
  subst q2
  split at h
  · -- nil
    simp only [CR] at ed
    subst ed
    unfold appNil at h
    split at h
    · simp only [Option.some.injEq] at h; subst h
      refine SemR.q hr hf (V := .slice none 0 0) ?_ rfl
      rw [run_append_in ht hu hti harg (q1 w) (Nat.le_refl _) (q3 w rfl)]
      rfl
    · rename_i m
      split at h <;> try (cases h; done)
      rename_i hfit
      split at h <;> try (cases h; done)
      rename_i xb
      simp only [Option.some.injEq] at h; subst h
      obtain ⟨c, tail, w', p1, p2, p3, p4⟩ := run_append_new (P := P) (w := w) (ty := ty) (base := none) (sLen := 0) (sCap := 0) (old := []) ht hu hti harg q1 (by omega) (by simpa using hfit) q3 (fun w' _ => by simp [Builtin.firstCells]) hz1 (by omega)
      simp only [Nat.zero_add] at p1 p3 p4
      refine ⟨_, w', _, p1, hr.newOut hf (c := c) ⟨us, tail, (0, 0), by simp, (q5 _ rfl).mono (ext_sub hf _ _), fun _ => rfl, ?_⟩ p2 ⟨w.heap.size, c, by simp [ext], by omega, by simp⟩⟩
      simp only [OpnR, List.length_append, p4, q4]
      rw [← Nat.add_mul]; congr 1; omega
  · -- room known
    rename_i nm off len cap
    obtain ⟨bl, cc, e1, rfl⟩ := ed
    unfold appSl at h
    split at h
    · split at h <;> try (cases h; done)
      rename_i hle
      simp only [Option.some.injEq] at h; subst h
      refine SemR.q hr hf (V := .slice (some ⟨bl, off, none⟩) len cap) ?_ ⟨bl, cc, e1, rfl⟩
      have : us = [] := List.length_eq_zero_iff.1 (by rw [q4]; simp)
      subst this
      rw [run_append_in ht hu hti harg (q1 w) (by omega) (q3 w rfl)]
      simp [storeCells]
    · rename_i m
      split at h <;> try (cases h; done)
      rename_i hc
      obtain ⟨hcap, hfit⟩ := hc
      unfold appNew at h
      split at h <;> try (cases h; done)
      rename_i b xb hb
      split at h <;> try (cases h; done)
      rename_i y hy
      simp only [Option.some.injEq] at h; subst h
      obtain ⟨old, o1, o2, o3⟩ := rowCut_ok (P := P) hr hb e1
      obtain ⟨c, tail, w', p1, p2, p3, p4⟩ := run_append_new (P := P) (w := w) (ty := ty) (base := some ⟨bl, off, none⟩) (sLen := len) (sCap := cap) (old := old) ht hu hti harg q1 hcap hfit q3 (fun w' hw' => by simp only [Builtin.firstCells]; exact o1 w' hw') hz1 (by omega)
      refine ⟨_, w', _, p1, hr.newOut hf (c := c) ⟨old ++ us, tail, (0, 0), by simp, (Body.cat_ok hy o3 (q5 _ rfl)).mono (ext_sub hf _ _), fun _ => rfl, ?_⟩ p2 ⟨w.heap.size, c, by simp [ext], by omega, by simp⟩⟩
      simp only [OpnR, List.length_append, p4, q4, o2]
      rw [← Nat.add_mul, ← Nat.add_mul]; congr 1; omega
  · -- room unknown
    rename_i nm sz a len
    obtain ⟨bl, cc, e1, e2, rfl⟩ := ed
    unfold appSlu at h
    split at h
    · simp only [Option.some.injEq] at h; subst h
      refine SemR.q hr hf (V := .slice (some ⟨bl, a * sz, none⟩) len (cc - a)) ?_ ⟨bl, cc, e1, e2, rfl⟩
      have : us = [] := List.length_eq_zero_iff.1 (by rw [q4]; simp)
      subst this
      rw [run_append_in ht hu hti harg (q1 w) (by omega) (q3 w rfl)]
      simp [storeCells]
    · rename_i m
      split at h <;> try (cases h; done)
      rename_i hc
      obtain ⟨rfl, rfl, hfit⟩ := hc
      split at h <;> try (cases h; done)
      rename_i t sz' bd hrow
      split at h <;> try (cases h; done)
      rename_i hc2
      obtain ⟨rfl, rfl⟩ := hc2
      obtain ⟨hblk, bl', c', vs, tl, fr, g1, g2, g3, g4, g5⟩ := row_ok hr hrow
      rw [e1] at g1
      simp only [Option.some.injEq, Prod.mk.injEq] at g1
      obtain ⟨rfl, rfl⟩ := g1
      have := g4 rfl
      subst this
      unfold appMv at h
      split at h <;> try (cases h; done)
      rename_i b xb hb
      split at h <;> try (cases h; done)
      rename_i y hy
      simp only [Option.some.injEq] at h; subst h
      obtain ⟨k1, k2⟩ := Body.cut_ok hb g3
      simp only [List.drop_zero] at k2
      have hxb := q5 _ rfl
      have hy' := Body.cat_ok hy k2 hxb
      simp only [OpnR] at g5
      simp only [Nat.sub_zero, Nat.zero_mul]
      by_cases hroom : len + (m + 1) ≤ cc
      · -- in place
        have hsz : len * ti.size + us.length ≤ (vs ++ tl).length := by
          rw [g5, q4, ← Nat.add_mul]; exact Nat.mul_le_mul_right _ hroom
        obtain ⟨w', s1, s2⟩ := run_storeRow (P := P) (w := w) (b := bl) (off := len * ti.size) (vs := vs ++ tl) (tail := []) (t := t) (by simpa using g2) us hsz hxb.one
        refine ⟨.slice (some ⟨bl, 0, none⟩) (len + (m + 1)) cc, w', ext ρ nx bl cc, ?_, hr.mvIn hf hblk rfl e1 (o := _) ⟨vs.take (len * ti.size) ++ us, (vs ++ tl).drop (len * ti.size + us.length), (0, 0), ?_, hy'.mono (ext_sub hf _ _), fun _ => rfl, ?_⟩ s2 ⟨bl, cc, by simp [ext], by omega, by simp⟩⟩
        · rw [run_append_in ht hu hti harg (q1 w) hroom (q3 w rfl)]
          simp [add_off, s1]
        · simp only [List.append_nil, over]
          rw [List.take_append_of_le_length (by omega)]
        · simp only [OpnR, List.length_append, List.length_drop, List.length_take] at g5 hsz ⊢
          omega
      · -- anew
        obtain ⟨c, tail, w', p1, p2, p3, p4⟩ := run_append_new (P := P) (w := w) (ty := ty) (base := some ⟨bl, 0, none⟩) (sLen := len) (sCap := cc) (old := vs.take (len * ti.size)) ht hu hti harg q1 (by omega) hfit q3 (fun w' hw' => by
          simp only [Builtin.firstCells]
          rw [run_loadRow (w := w') (by rw [hw']; exact g2) _ (by simp; omega)]
          simp only [List.drop_zero]
          rw [List.take_append_of_le_length (by omega)]) hz1 (by omega)
        refine ⟨_, w', _, p1, hr.mvNew hf hblk rfl (c := c) ⟨vs.take (len * ti.size) ++ us, tail, (0, 0), by simp, hy'.mono (ext_sub hf _ _), fun _ => rfl, ?_⟩ p2 ⟨w.heap.size, c, by simp [ext], by omega, by simp⟩⟩
        have hlt : (vs.take (len * ti.size)).length = len * ti.size := by simp; omega
        simp only [OpnR, List.length_append, p4, q4, hlt]
        rw [← Nat.add_mul, ← Nat.add_mul]; congr 1; omega
  · cases h

theorem minRes_ok {f : Int → Int → Int} {l : List RV} {v : AV} {vs : List Value} {s : Array Value → Sem Value} (h : minRes f l = some v) (hv : ∀ (i : Nat) (x : RV), l[i]? = some x → ∃ V, vs[i]? = some V ∧ RVR ρ x V) (hlen : vs.length = l.length)
    (hs : ∀ k x y, (s #[.int k x, .int k y]).run P w = .ok (.int k (f x y)) w) (hq : quiet v = some r) : SemR P ρ hp nx w (s vs.toArray) r := by
  unfold minRes at h
  split at h <;> try (cases h; done)
  rename_i k x k' y
  split at h <;> try (cases h; done)
  rename_i hk
  subst hk
  simp only [Option.some.injEq] at h; subst h
  obtain ⟨V0, e0, h0⟩ := hv 0 _ rfl
  obtain ⟨V1, e1, h1⟩ := hv 1 _ rfl
  simp only [RVR, AVR, CR] at h0 h1
  subst h0 h1
  have : vs = [.int k x, .int k y] := by
    match vs, hlen with
    | [a, b], _ => simp at e0 e1; subst e0 e1; rfl
  subst this
  exact SemR.quiet hr hf hq (hs k x y) rfl

theorem deleteRes_ok {ts : Array TypeId} {ty : TypeId} {m k : RV} {M K : Value} (h : deleteRes P hp ts m k = some r) (hm : RVR ρ m M) (hk : RVR ρ k K) : SemR P ρ hp nx w (Builtin.delete_ ts ty #[M, K]) r := by
  unfold deleteRes at h
  split at h <;> try (cases h; done)
  rename_i t nm kc ht
  have ek : CR ρ kc K := hk
  split at h <;> try (cases h; done)
  rename_i es hblk
  split at h <;> try (cases h; done)
  rename_i hko
  obtain ⟨b, c, e1, rfl⟩ := hm
  obtain ⟨d, hd⟩ := keyOK_some hko
  rw [hd] at hko
  obtain ⟨kt, e, hu, hu2⟩ := keyTy_ok hd
  obtain ⟨b', c', o, g1, g2, g3⟩ := hr.ok _ _ hblk
  rw [e1] at g1
  simp only [Option.some.injEq, Prod.mk.injEq] at g1
  obtain ⟨rfl, rfl⟩ := g1
  obtain ⟨ents, cl, rfl, g4⟩ := g3
  unfold delRes at h
  split at h
  · rename_i i v0 hfk
    simp only [Option.some.injEq] at h; subst h
    obtain ⟨V, e', q1, q2, q3, q4, c', q5, q6, q7⟩ := findKey_ok hko ek hfk g4
    obtain ⟨w', s1, s2⟩ := run_setMap (P := P) (o' := .map (ents.eraseIdxIfInBounds i) cl) g2 (by intros; simp)
    refine ⟨.tuple #[], w', ρ, ?_, hr.wrOut hf hblk rfl e1 ⟨_, _, rfl, ?_⟩ s2 ⟨[], rfl, rfl⟩⟩
    · simp [Builtin.delete_, ht, run_underlying hu, run_getMap g2, run_checkKey hu2 hko ek, run_findKey hu2 q1, s1]
    · have := g4.erase i
      have hlt : i < ents.size := by
        rcases Nat.lt_or_ge i ents.size with h' | h'
        · exact h'
        · simp at q4; rw [Array.getElem?_eq_none h'] at q4; cases q4
      simpa [Array.eraseIdxIfInBounds, hlt] using this
  · rename_i hfk
    simp only [Option.some.injEq] at h; subst h
    have q1 := findKey_ok hko ek hfk g4
    obtain ⟨w', s1, s2⟩ := run_setMap (P := P) (o' := .map ents cl) g2 (by intros; simp)
    refine SemR.same hf hr (V := .tuple #[]) (w' := w') ?_ ?_ s2.os s2.tape s2.out ⟨[], rfl, rfl⟩
    · simp [Builtin.delete_, ht, run_underlying hu, run_getMap g2, run_checkKey hu2 hko ek, run_findKey hu2 q1, s1]
    · apply Array.ext_getElem?
      intro i
      by_cases h : i = b
      · subst h; rw [s2.at_, g2]
      · rw [s2.other i h]
  · cases h

end ops
end Go.Sx
