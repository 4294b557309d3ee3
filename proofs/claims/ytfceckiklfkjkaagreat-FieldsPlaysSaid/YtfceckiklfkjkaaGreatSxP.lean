/-
  Parts of the executor Sx over the model's code (any program), or of this seat's walks: words and proofs that the row's text uses.
-/
import Derived.Test.YtfceckiklfkjkaaGreatSxO
import Derived.Laws.BytesString
import Derived.Lib.ConvBytes
import Derived.RangeFuncLeaves
import Derived.RangeFuncCalls
import Derived.OrdersIn
import Derived.LoopNIn
import Derived.TacticsIn
import Derived.RangeFuncRecord
namespace Go.Sx
variable {P : Program} {ρ : Rho} {w : World} {hp : Hp} {nx : Nat}

theorem zeroAny {t : TypeId} {zv : Value} {w : World} (h : (zeroValue t).run P w = .ok zv w) (w' : World) : (zeroValue t).run P w' = .ok zv w' := by
  unfold zeroValue typeInfo at h ⊢
  simp only [Sem.run_bind, run_program, Result.andThen_ok] at h ⊢
  cases hi : P.info? t with
  | none => rw [hi] at h; simp [Result.andThen] at h
  | some i =>
    rw [hi] at h
    simp only [Sem.run_pure, Result.andThen_ok] at h ⊢
    cases hz : i.zero with
    | none => rw [hz] at h; simp at h
    | some v => rw [hz] at h; simp at h ⊢; exact h

theorem rowCut_ok {nm off n bl c : Nat} {b : Body} (hr : HRel ρ hp w) (h : rowCut hp nm off n = some b) (e : ρ nm = some (bl, c)) :
    ∃ us, (∀ w' : World, w'.heap = w.heap → (loadCells ⟨bl, off, none⟩ n).run P w' = .ok us.toArray w') ∧ us.length = n ∧ BodyR ρ b us := by
  unfold rowCut at h
  split at h <;> try (cases h; done)
  rename_i t ro opn bd hrow
  obtain ⟨hblk, bl', c', vs, tail, fr, g1, g2, g3, _, _⟩ := row_ok hr hrow
  rw [e] at g1
  simp only [Option.some.injEq, Prod.mk.injEq] at g1
  obtain ⟨rfl, rfl⟩ := g1
  obtain ⟨k1, k2⟩ := Body.cut_ok h g3
  refine ⟨(vs.drop off).take n, fun w' hw' => ?_, by simp; omega, k2⟩
  rw [run_loadRow (w := w') (by rw [hw']; exact g2) n (by simp; omega)]
  congr 2
  simp only
  rw [List.drop_append_of_le_length (by omega), List.take_append_of_le_length (by simp; omega)]

section ops
variable {r : Res} (hr : HRel ρ hp w) (hf : Fresh ρ nx)
include hr hf

theorem appendRes_ok {ts : Array TypeId} {ty : TypeId} {d s : RV} {D S : Value} (h : appendRes P hp nx ts d s = some r) (hd : RVR ρ d D) (hs : RVR ρ s S) : SemR P ρ hp nx w (Builtin.append_ ts ty #[D, S]) r := by
  unfold appendRes at h
  split at h <;> try (cases h; done)
  rename_i dt dc sc ht
  have ed : CR ρ dc D := hd
  have es : CR ρ sc S := hs
  split at h <;> try (cases h; done)
  rename_i e hu
  split at h <;> try (cases h; done)
  rename_i ti hti
  split at h <;> try (cases h; done)
  rename_i z hz
  split at h <;> try (cases h; done)
  rename_i hcond
  obtain ⟨hzs, harg⟩ := hcond
  obtain ⟨zv, z1, z2⟩ := zeroAV_ok (w := w) (ρ := ρ) hz
  obtain ⟨_, _, c3⟩ := z2.cells
  have hz1 : ∀ w', (zeroValue e).run P w' = .ok zv w' := zeroAny z1
  unfold appGo at h
  split at h <;> try (cases h; done)
  rename_i from_ n x hsrc
  obtain ⟨l, us, q1, q2, q3, q4, q5⟩ := srcBody_ok (P := P) hr hsrc es
  simp only [lenBy] at q2
  subst q2
  split at h
  · -- nil
    simp only [CR] at ed
    subst ed
    unfold appNil at h
    split at h
    · simp only [Option.some.injEq] at h; subst h
      refine SemR.q hr hf (V := .slice none 0 0) ?_ rfl
      rw [run_append_in ht hu hti harg (q1 w) (Nat.le_refl _) (q3 w rfl)]
      rfl
    · rename_i m
      split at h <;> try (cases h; done)
      rename_i hfit
      split at h <;> try (cases h; done)
      rename_i xb
      simp only [Option.some.injEq] at h; subst h
      obtain ⟨c, tail, w', p1, p2, p3, p4, p5⟩ := run_append_new (P := P) (w := w) (ty := ty) (base := none) (sLen := 0) (sCap := 0) (old := []) ht hu hti harg q1 (by omega) (by simpa using hfit) q3 (fun w' _ => by simp [Builtin.firstCells]) hz1 (by omega)
      simp only [Nat.zero_add] at p1 p3 p4
      refine ⟨_, w', _, p1, hr.newOut hf (c := c) ⟨us, tail, (0, 0), by simp, (q5 _ rfl).mono (ext_sub hf _ _), fun _ => rfl, ?_⟩ p2 ⟨w.heap.size, c, 0, by simp [ext], by omega, .inl (by simp), by simp⟩⟩
      simp only [OpnR, List.length_append, p4, q4]
      refine ⟨?_, p5⟩
      rw [← Nat.add_mul]; congr 1; omega
  · -- room known
    rename_i nm off len cap
    obtain ⟨bl, cc, e1, rfl⟩ := ed
    unfold appSl at h
    split at h
    · split at h <;> try (cases h; done)
      rename_i hle
      simp only [Option.some.injEq] at h; subst h
      refine SemR.q hr hf (V := .slice (some ⟨bl, off, none⟩) len cap) ?_ ⟨bl, cc, e1, rfl⟩
      have : us = [] := List.length_eq_zero_iff.1 (by rw [q4]; simp)
      subst this
      rw [run_append_in ht hu hti harg (q1 w) (by omega) (q3 w rfl)]
      simp [storeCells]
    · rename_i m
      split at h
      rotate_left
      · split at h <;> try (cases h; done)
        rename_i hle
        unfold appIn at h
        split at h <;> try (cases h; done)
        rename_i xb t o bd hrow
        split at h <;> try (cases h; done)
        rename_i bd' hput
        simp only [Option.some.injEq] at h; subst h
        obtain ⟨hblk, bl', cc', vs, tail, fr, g1, g2, g3, g4, g5⟩ := row_ok hr hrow
        rw [e1] at g1
        simp only [Option.some.injEq, Prod.mk.injEq] at g1
        obtain ⟨rfl, rfl⟩ := g1
        have hxb := q5 _ rfl
        obtain ⟨k1, k2⟩ := Body.put_ok hput g3 hxb
        have := g4 rfl
        subst this
        obtain ⟨w', p1, p2⟩ := wrRow (P := P) hr hf (v := .one (.c (.sl nm off (len + (m + 1)) cap))) (V := .slice (some ⟨bl, off, none⟩) (len + (m + 1)) cap) hblk e1 g2 g5 k1 hxb.one k2 ⟨bl, cc, e1, rfl⟩
        refine ⟨_, w', ρ, ?_, p2⟩
        rw [run_append_in ht hu hti harg (q1 w) hle (q3 w rfl)]
        simp [add_off, p1]
      rename_i hc
      obtain ⟨hcap, hfit⟩ := hc
      unfold appNew at h
      split at h <;> try (cases h; done)
      rename_i b xb hb
      split at h <;> try (cases h; done)
      rename_i y hy
      simp only [Option.some.injEq] at h; subst h
      obtain ⟨old, o1, o2, o3⟩ := rowCut_ok (P := P) hr hb e1
      obtain ⟨c, tail, w', p1, p2, p3, p4, p5⟩ := run_append_new (P := P) (w := w) (ty := ty) (base := some ⟨bl, off, none⟩) (sLen := len) (sCap := cap) (old := old) ht hu hti harg q1 hcap hfit q3 (fun w' hw' => by simp only [Builtin.firstCells]; exact o1 w' hw') hz1 (by omega)
      refine ⟨_, w', _, p1, hr.newOut hf (c := c) ⟨old ++ us, tail, (0, 0), by simp, (Body.cat_ok hy o3 (q5 _ rfl)).mono (ext_sub hf _ _), fun _ => rfl, ?_⟩ p2 ⟨w.heap.size, c, 0, by simp [ext], by omega, .inl (by simp), by simp⟩⟩
      simp only [OpnR, List.length_append, p4, q4, o2]
      refine ⟨?_, p5⟩
      rw [← Nat.add_mul, ← Nat.add_mul]; congr 1; omega
  · -- room unknown
    rename_i nm sz a len
    obtain ⟨bl, cc, ao, e1, e2, e3, rfl⟩ := ed
    unfold appSlu at h
    split at h
    · simp only [Option.some.injEq] at h; subst h
      refine SemR.q hr hf (V := .slice (some ⟨bl, ao, none⟩) len (cc - a)) ?_ ⟨bl, cc, ao, e1, e2, e3, rfl⟩
      have : us = [] := List.length_eq_zero_iff.1 (by rw [q4]; simp)
      subst this
      rw [run_append_in ht hu hti harg (q1 w) (by omega) (q3 w rfl)]
      simp [storeCells]
    · rename_i m
      split at h <;> try (cases h; done)
      rename_i hc
      obtain ⟨rfl, rfl, hfit⟩ := hc
      obtain rfl := e3.resolve_right (by omega)
      split at h <;> try (cases h; done)
      rename_i t sz' bd hrow
      split at h <;> try (cases h; done)
      rename_i hc2
      obtain ⟨rfl, rfl⟩ := hc2
      obtain ⟨hblk, bl', c', vs, tl, fr, g1, g2, g3, g4, g5⟩ := row_ok hr hrow
      rw [e1] at g1
      simp only [Option.some.injEq, Prod.mk.injEq] at g1
      obtain ⟨rfl, rfl⟩ := g1
      have := g4 rfl
      subst this
      unfold appMv at h
      split at h <;> try (cases h; done)
      rename_i b xb hb
      split at h <;> try (cases h; done)
      rename_i y hy
      simp only [Option.some.injEq] at h; subst h
      obtain ⟨k1, k2⟩ := Body.cut_ok hb g3
      simp only [List.drop_zero] at k2
      have hxb := q5 _ rfl
      have hy' := Body.cat_ok hy k2 hxb
      simp only [OpnR] at g5
      obtain ⟨g5, g6⟩ := g5
      simp only [Nat.sub_zero, Nat.zero_mul]
      by_cases hroom : len + (m + 1) ≤ cc
      · -- in place
        have hsz : len * ti.size + us.length ≤ (vs ++ tl).length := by
          rw [g5, q4, ← Nat.add_mul]; exact Nat.mul_le_mul_right _ hroom
        obtain ⟨w', s1, s2⟩ := run_storeRow (P := P) (w := w) (b := bl) (off := len * ti.size) (vs := vs ++ tl) (tail := []) (t := t) (by simpa using g2) us hsz hxb.one
        refine ⟨.slice (some ⟨bl, 0, none⟩) (len + (m + 1)) cc, w', ext ρ nx bl cc, ?_, hr.mvIn hf hblk rfl e1 (o := _) ⟨vs.take (len * ti.size) ++ us, (vs ++ tl).drop (len * ti.size + us.length), (0, 0), ?_, hy'.mono (ext_sub hf _ _), fun _ => rfl, ?_⟩ s2 ⟨bl, cc, 0, by simp [ext], by omega, .inl (by simp), by simp⟩⟩
        · rw [run_append_in ht hu hti harg (q1 w) hroom (q3 w rfl)]
          simp [add_off, s1]
        · simp only [List.append_nil, over]
          rw [List.take_append_of_le_length (by omega)]
        · simp only [OpnR, List.length_append, List.length_drop, List.length_take] at g5 hsz ⊢
          refine ⟨?_, g6⟩
          omega
      · -- anew
        obtain ⟨c, tail, w', p1, p2, p3, p4, p5⟩ := run_append_new (P := P) (w := w) (ty := ty) (base := some ⟨bl, 0, none⟩) (sLen := len) (sCap := cc) (old := vs.take (len * ti.size)) ht hu hti harg q1 (by omega) hfit q3 (fun w' hw' => by
          simp only [Builtin.firstCells]
          rw [run_loadRow (w := w') (by rw [hw']; exact g2) _ (by simp; omega)]
          simp only [List.drop_zero]
          rw [List.take_append_of_le_length (by omega)]) hz1 (by omega)
        refine ⟨_, w', _, p1, hr.mvNew hf hblk rfl (c := c) ⟨vs.take (len * ti.size) ++ us, tail, (0, 0), by simp, hy'.mono (ext_sub hf _ _), fun _ => rfl, ?_⟩ p2 ⟨w.heap.size, c, 0, by simp [ext], by omega, .inl (by simp), by simp⟩⟩
        have hlt : (vs.take (len * ti.size)).length = len * ti.size := by simp; omega
        simp only [OpnR, List.length_append, p4, q4, hlt]
        refine ⟨?_, p5⟩
        rw [← Nat.add_mul, ← Nat.add_mul]; congr 1; omega
  · cases h

theorem minRes_ok {f : Int → Int → Int} {l : List RV} {v : AV} {vs : List Value} {s : Array Value → Sem Value} (h : minRes f l = some v) (hv : ∀ (i : Nat) (x : RV), l[i]? = some x → ∃ V, vs[i]? = some V ∧ RVR ρ x V) (hlen : vs.length = l.length)
    (hs : ∀ k x y, (s #[.int k x, .int k y]).run P w = .ok (.int k (f x y)) w) (hq : quiet v = some r) : SemR P ρ hp nx w (s vs.toArray) r := by
  unfold minRes at h
  split at h <;> try (cases h; done)
  rename_i k x k' y
  split at h <;> try (cases h; done)
  rename_i hk
  subst hk
  simp only [Option.some.injEq] at h; subst h
  obtain ⟨V0, e0, h0⟩ := hv 0 _ rfl
  obtain ⟨V1, e1, h1⟩ := hv 1 _ rfl
  simp only [RVR, AVR, CR] at h0 h1
  subst h0 h1
  have : vs = [.int k x, .int k y] := by
    match vs, hlen with
    | [a, b], _ => simp at e0 e1; subst e0 e1; rfl
  subst this
  exact SemR.quiet hr hf hq (hs k x y) rfl

theorem deleteRes_ok {ts : Array TypeId} {ty : TypeId} {m k : RV} {M K : Value} (h : deleteRes P hp ts m k = some r) (hm : RVR ρ m M) (hk : RVR ρ k K) : SemR P ρ hp nx w (Builtin.delete_ ts ty #[M, K]) r := by
  unfold deleteRes at h
  split at h <;> try (cases h; done)
  rename_i t nm kc ht
  have ek : CR ρ kc K := hk
  split at h <;> try (cases h; done)
  rename_i es hblk
  split at h <;> try (cases h; done)
  rename_i hko
  obtain ⟨b, c, e1, rfl⟩ := hm
  obtain ⟨d, hd⟩ := keyOK_some hko
  rw [hd] at hko
  obtain ⟨kt, e, hu, hu2⟩ := keyTy_ok hd
  obtain ⟨b', c', o, g1, g2, g3⟩ := hr.ok _ _ hblk
  rw [e1] at g1
  simp only [Option.some.injEq, Prod.mk.injEq] at g1
  obtain ⟨rfl, rfl⟩ := g1
  obtain ⟨ents, cl, rfl, g4, g5⟩ := g3
  unfold delRes at h
  split at h
  · rename_i i v0 hfk
    simp only [Option.some.injEq] at h; subst h
    obtain ⟨V, e', q1, q2, q3, q4, c', q5, q6, q7⟩ := findKey_ok hko ek hfk g4
    obtain ⟨w', s1, s2⟩ := run_setMap (P := P) (o' := .map (ents.eraseIdxIfInBounds i) cl) g2 (by intros; simp)
    refine ⟨.tuple #[], w', ρ, ?_, hr.wrOut hf hblk rfl e1 ⟨_, _, rfl, ?_, MapKept.stamped_erase g5 i⟩ s2 ⟨[], rfl, rfl⟩⟩
    · simp [Builtin.delete_, ht, run_underlying hu, run_getMap g2, run_checkKey hu2 hko ek, run_findKey hu2 q1, s1]
    · have := g4.erase i
      have hlt : i < ents.size := by
        rcases Nat.lt_or_ge i ents.size with h' | h'
        · exact h'
        · simp at q4; rw [Array.getElem?_eq_none h'] at q4; cases q4
      simpa [Array.eraseIdxIfInBounds, hlt] using this
  · rename_i hfk
    simp only [Option.some.injEq] at h; subst h
    have q1 := findKey_ok hko ek hfk g4
    obtain ⟨w', s1, s2⟩ := run_setMap (P := P) (o' := .map ents cl) g2 (by intros; simp)
    refine SemR.same hf hr (V := .tuple #[]) (w' := w') ?_ ?_ s2.os s2.tape s2.out ⟨[], rfl, rfl⟩
    · simp [Builtin.delete_, ht, run_underlying hu, run_getMap g2, run_checkKey hu2 hko ek, run_findKey hu2 q1, s1]
    · apply Array.ext_getElem?
      intro i
      by_cases h : i = b
      · subst h; rw [s2.at_, g2]
      · rw [s2.other i h]
  · cases h

theorem clearRes_ok {ts : Array TypeId} {ty : TypeId} {m : RV} {M : Value} (h : clearRes P hp ts m = some r) (hm : RVR ρ m M) : SemR P ρ hp nx w (Builtin.clear_ ts ty #[M]) r := by
  unfold clearRes at h
  split at h <;> try (cases h; done)
  rotate_left
  · rename_i t x _ ht
    have hx : CR ρ x M := hm
    split at h <;> try (cases h; done)
    rename_i e hu
    unfold clearSl at h
    split at h <;> try (cases h; done)
    rename_i ti z hti hz
    split at h <;> try (cases h; done)
    rename_i hsz
    obtain ⟨zv, z1, z2⟩ := zeroAV_ok (w := w) (ρ := ρ) hz
    obtain ⟨_, _, c3⟩ := z2.cells
    split at h <;> try (cases h; done)
    · rename_i hp0
      simp only [Option.some.injEq] at h; subst h
      rcases sliceParts_nil hp0 hx with rfl | ⟨A, cap, rfl⟩
      · exact SemR.q hr hf (V := .tuple #[]) (by simp [Builtin.clear_, ht, run_underlying hu]) ⟨[], rfl, rfl⟩
      · exact SemR.q hr hf (V := .tuple #[]) (by simp [Builtin.clear_, ht, run_underlying hu]) ⟨[], rfl, rfl⟩
    · rename_i nm off len hp0
      obtain ⟨b, c, cap, e1, rfl⟩ := sliceParts_ok hp0 hx
      split at h
      · simp only [Option.some.injEq] at h; subst h
        exact SemR.q hr hf (V := .tuple #[]) (by simp [Builtin.clear_, ht, run_underlying hu]) ⟨[], rfl, rfl⟩
      · rename_i m
        split at h <;> try (cases h; done)
        rename_i t' o bd hrow
        split at h <;> try (cases h; done)
        rename_i bd' hput
        simp only [Option.some.injEq] at h; subst h
        obtain ⟨hblk, bl, cc, vs, tail, fr, g1, g2, g3, g4, g5⟩ := row_ok hr hrow
        rw [e1] at g1
        simp only [Option.some.injEq, Prod.mk.injEq] at g1
        obtain ⟨rfl, rfl⟩ := g1
        have hxb := rowsOf_ok (P := P) (e := e) z2 (m + 1)
        obtain ⟨k1, k2⟩ := Body.put_ok hput g3 hxb
        have := g4 rfl
        subst this
        obtain ⟨w', p1, p2⟩ := wrRow (P := P) hr hf (v := und) (V := .tuple #[]) hblk e1 g2 g5 k1 hxb.one k2 ⟨[], rfl, rfl⟩
        refine ⟨_, w', ρ, ?_, p2⟩
        have hzc : (Builtin.zeroCells zv.cells (m + 1)).toList = repl zv.cells.toList (m + 1) := by
          have := range_repl zv.cells.toList ti.size (by simpa [hsz] using c3) (m + 1)
          rw [← this]
          simp [Builtin.zeroCells, ← hsz, c3]
        simp [Builtin.clear_, ht, run_underlying hu, z1, hzc, p1]
  rename_i t nm ht
  split at h <;> try (cases h; done)
  rename_i kt e hu
  split at h <;> try (cases h; done)
  rename_i es hblk
  simp only [Option.some.injEq] at h; subst h
  obtain ⟨b, c, e1, rfl⟩ := hm
  obtain ⟨b', c', o, g1, g2, g3⟩ := hr.ok _ _ hblk
  rw [e1] at g1
  simp only [Option.some.injEq, Prod.mk.injEq] at g1
  obtain ⟨rfl, rfl⟩ := g1
  obtain ⟨ents, cl, rfl, g4, g5⟩ := g3
  obtain ⟨w', s1, s2⟩ := run_setMap (P := P) (o' := .map #[] cl) g2 (by intros; simp)
  refine ⟨.tuple #[], w', ρ, ?_, hr.wrOut hf hblk rfl e1 ⟨_, _, rfl, rfl, MapKept.stamped_empty cl⟩ s2 ⟨[], rfl, rfl⟩⟩
  simp [Builtin.clear_, ht, run_underlying hu, run_getMap g2, s1]

end ops
end Go.Sx

namespace Go.Sx
variable {P : Program} {ρ : Rho} {w : World} {hp : Hp} {nx : Nat}
/-! ## Texts -/
theorem foldl_push : ∀ (l : List Int) (a : ByteArray), l.foldl (fun r n => r.push (UInt8.ofNat n.toNat)) a = ⟨⟨a.data.toList ++ l.map fun n => UInt8.ofNat n.toNat⟩⟩
  | [], a => by simp
  | x :: l, a => by
    rw [List.foldl_cons, foldl_push l]
    simp [ByteArray.push]
theorem strOf_eq (l : List Int) : l.foldl (fun r n => r.push (UInt8.ofNat n.toNat)) ByteArray.empty = strOf l := by
  rw [foldl_push]
  unfold strOf mkS
  rw [List.map_map]
  rfl
theorem run_getObj' {b : Nat} {s : ByteArray} {p : Nat} (h : w.heap[b]? = some (.stringIter s p)) : (getObj b).run P w = .ok (.stringIter s p) w := by
  simp [getObj, Sem.run, h]
section ops
variable {ev : Ev} {va : Operand → Value} {r : Res} (hr : HRel ρ hp w) (hf : Fresh ρ nx)
include hr
theorem bytesC_ok {x : Cell} {s : ByteArray} {nd : List Nat} (h : bytesC hp x = some (s, nd)) {X : Value} (hx : CR ρ x X) : (Conv.bytesToString X).run P w = .ok (.string s) w := by
  unfold bytesC at h
  split at h
  · simp only [Option.some.injEq, Prod.mk.injEq] at h
    obtain ⟨rfl, _⟩ := h
    simp only [CR] at hx
    subst hx
    simp [Conv.bytesToString]
  · have key : ∀ (nm m : Nat) (bd : Body) (l : List Int), srcBody hp 1 none x = some (some nm, m, some bd) → (∀ us, BodyR ρ bd us → us = l.map (Value.int .u8)) → (Conv.bytesToString X).run P w = .ok (.string (strOf l)) w := by
      intro nm m bd l hs hl
      obtain ⟨len, us, h1, h2, h3, h4, h5⟩ := srcBody_ok (P := P) hr hs hx
      have hus := hl us (h5 _ rfl)
      subst hus
      have hsl : ∃ a cap, X = .slice (some a) len cap := by
        unfold srcBody at hs
        split at hs
        · split at hs <;> cases hs
        · split at hs <;> try (cases hs; done)
          rename_i hsp
          obtain ⟨b, c, cap, e1, rfl⟩ := sliceParts_ok hsp hx
          have := h1 w
          simp only [Builtin.lenOf, Sem.run_pure, Result.ok.injEq] at this
          exact ⟨_, _, by rw [← this.1]⟩
      obtain ⟨a, cap, rfl⟩ := hsl
      have h3' := h3 w rfl
      simp only [Builtin.firstCells, Nat.mul_one] at h3'
      simp only [lenBy] at h2
      subst h2
      rw [run_bytesToString w a m cap l h3', strOf_eq]
    split at h
    · rename_i nm m l n hs
      simp only [Option.some.injEq, Prod.mk.injEq] at h
      obtain ⟨rfl, _⟩ := h
      exact key nm m _ l hs fun us hu => hu.2
    · rename_i nm m cs hs
      split at h <;> try (cases h; done)
      rename_i l hl
      simp only [Option.some.injEq, Prod.mk.injEq] at h
      obtain ⟨rfl, _⟩ := h
      exact key nm m _ l hs fun us hu => (toInts_ok hl hu).1
    · cases h
include hf
theorem stConvS_ok {src dst : TypeId} {x : Operand} (h : stConvS P ev hp nx src dst x = some r) (hx : EvR ρ ev va x) : SemR P ρ hp nx w (convert src dst (va x)) r := by
  unfold stConvS at h
  split at h
  · rename_i s hv
    have e : va x = .string s := hx _ hv
    split at h <;> try (cases h; done)
    · rename_i h1 h2
      refine SemR.quiet hr hf h (V := .string s) ?_ rfl
      simp [convert, run_underlying h1, run_underlying h2, e]
    · rename_i el h1 h2
      split at h <;> try (cases h; done)
      rename_i h3
      split at h <;> try (cases h; done)
      rename_i hsz
      have hsz := Nat.le_of_ble_eq_true hsz
      simp only [Option.some.injEq] at h; subst h
      rw [e]
      have hcap : s.size ≤ grownCap w s.size 0 el := by
        show s.size ≤ s.size + _
        omega
      refine ⟨_, _, ext ρ nx w.heap.size (grownCap w s.size 0 el), Lib.run_convert_string_bytes w src dst el s h1 h2 h3, hr.newOut hf (o := .cells (Lib.bytesCells w el s) el ((Lib.bytesCells w el s).size, (Lib.bytesCells w el s).size + 1)) ?_ ?_ ⟨w.heap.size, grownCap w s.size 0 el, 0, by simp [ext], by omega, .inl (by simp), by simp⟩⟩
      · refine ⟨(s.data.toList.map fun x => (x.toNat : Int)).map (Value.int .u8), List.replicate (grownCap w s.size 0 el - s.size) (.int .u8 0), ((Lib.bytesCells w el s).size, (Lib.bytesCells w el s).size + 1), ?_, ⟨?_, rfl⟩, (fun h => by cases h), ?_, ?_⟩
        · congr 1
          apply Array.toList_inj.1
          simp [Lib.bytesCells]
        · simp
        · simp; omega
        · exact grownCap_le_maxLen w s.size 0 el (by show s.size ≤ 9223372036854775807; omega)
      · refine ⟨?_, rfl, rfl, rfl⟩
        apply Array.ext
        · simp [Lib.bytesWorld_size]
        · intro i h1 h2
          rw [← Option.some_inj, ← Array.getElem?_eq_getElem, ← Array.getElem?_eq_getElem]
          by_cases hi : i < w.heap.size
          · rw [Lib.bytesWorld_at_old w el s i hi, Array.getElem?_push_lt hi, Array.getElem?_eq_getElem hi]
          · have : i = w.heap.size := by rw [Lib.bytesWorld_size] at h1; omega
            subst this
            rw [Lib.bytesWorld_at_new, Array.getElem?_push_size]
  · rename_i x' _ hv
    have e : CR ρ x' (va x) := hx _ hv
    split at h <;> try (cases h; done)
    rotate_left
    · rename_i e0 el h1 h2
      split at h <;> try (cases h; done)
      rename_i nm off len cap h3 _
      split at h <;> try (cases h; done)
      rename_i t o b hblk hsd
      have hsd : src = dst := of_decide_eq_true hsd
      subst hsd
      obtain rfl : e0 = el := by rw [h1] at h2; cases h2; rfl
      simp only [Option.some.injEq] at h; subst h
      obtain ⟨bl, cc, e1, e2⟩ := e
      obtain ⟨b', c', ob, g1, g2, vs, tail, fr, rfl, g3, g4, g5⟩ := hr.ok _ _ hblk
      rw [e1] at g1
      simp only [Option.some.injEq, Prod.mk.injEq] at g1
      obtain ⟨rfl, rfl⟩ := g1
      obtain rfl := g4 rfl
      have hlt := lt_of_get g2
      have hsh : w.shape? bl = some (t, (vs ++ tail).toArray.size) := by simp [World.shape?, g2]
      refine ⟨va x, w.freeze ⟨bl, (vs ++ tail).toArray.size, none⟩ 1, ρ, ?_, hr.wrOut hf hblk rfl e1 (o := .cells (vs ++ tail).toArray t ((vs ++ tail).toArray.size, (vs ++ tail).toArray.size + 1)) ⟨vs, tail, _, rfl, g3, (fun h => by cases h), g5⟩ ⟨?_, ?_, ?_, rfl, rfl, rfl⟩ (by rw [e2]; exact ⟨bl, cc, e1, rfl⟩)⟩
      · rw [e2]
        simp [convert, run_underlying h1, run_underlying h3, markStringish, hsh]
      · simp [World.freeze]
      · simp only [World.freeze]
        rw [if_neg (by decide), Array.getElem?_modify, if_pos rfl, g2]
        simp
      · intro i hi
        simp only [World.freeze]
        rw [if_neg (by decide), Array.getElem?_modify, if_neg (fun e => hi e.symm)]
    rename_i el h1 h2
    split at h <;> try (cases h; done)
    rename_i h3
    split at h <;> try (cases h; done)
    rename_i s nd hb
    simp only [Option.some.injEq] at h; subst h
    have hrun := bytesC_ok (P := P) hr hb e
    refine SemR.q hr hf (V := .string s) ?_ rfl
    have hns : (∃ A l c, va x = .slice A l c) := by
      unfold bytesC at hb
      split at hb
      · simp only [CR] at e; exact ⟨_, _, _, e⟩
      · cases x' with
        | sl => obtain ⟨_, _, _, e⟩ := e; exact ⟨_, _, _, e⟩
        | slu => obtain ⟨_, _, _, _, _, _, e⟩ := e; exact ⟨_, _, _, e⟩
        | sl0 => simp only [CR] at e; exact ⟨_, _, _, e⟩
        | str s => rename_i hns _; exact absurd rfl (hns s)
        | _ => simp [srcBody, sliceParts] at hb
    obtain ⟨A, l, c, hA⟩ := hns
    rw [hA] at hrun ⊢
    simp [convert, run_underlying h1, run_underlying h2, run_underlying h3, hrun]
  · cases h
theorem stConvH_ok {src dst : TypeId} {x : Operand} (h : stConvH P ev hp nx src dst x = some r) (hx : EvR ρ ev va x) : SemR P ρ hp nx w (convert src dst (va x)) r := by
  unfold stConvH at h
  split at h
  · rename_i r' h1
    simp only [Option.some.injEq] at h; subst h
    exact stConv_ok hr hf h1 hx
  · exact stConvS_ok hr hf h hx
theorem stRange_ok {t : TypeId} {x : Operand} (h : stRange P ev nx t x = some r) (hx : EvR ρ ev va x) : SemR P ρ hp nx w (Instr.range t (va x)) r := by
  unfold stRange at h
  split at h <;> try (cases h; done)
  rename_i s hv
  have e : va x = .string s := hx _ hv
  split at h <;> try (cases h; done)
  rename_i hu
  simp only [Option.some.injEq] at h; subst h
  refine ⟨.pointer (some ⟨w.heap.size, 0, none⟩), { w with heap := w.heap.push (.stringIter s 0) }, ext ρ nx w.heap.size 0, by simp [Instr.range, run_underlying hu, e], hr.newOut hf (o := .stringIter s 0) rfl ⟨rfl, rfl, rfl, rfl⟩ ⟨w.heap.size, 0, by simp [ext], rfl⟩⟩
theorem stNext_ok {x : Operand} {b : Bool} {t : TypeId} (h : stNext ev hp x b = some r) (hx : EvR ρ ev va x) : SemR P ρ hp nx w (Instr.next (va x) b t) r := by
  unfold stNext at h
  split at h <;> try (cases h; done)
  rename_i nm hv
  obtain ⟨bl, c, e1, e2⟩ := hx _ hv
  split at h <;> try (cases h; done)
  rename_i s pos hblk
  obtain ⟨b', c', o, g1, g2, g3⟩ := hr.ok _ _ hblk
  rw [e1] at g1
  simp only [Option.some.injEq, Prod.mk.injEq] at g1
  obtain ⟨rfl, rfl⟩ := g1
  have g3 : o = .stringIter s pos := g3
  subst g3
  split at h
  · rename_i hlt
    have hlt : pos < s.size := by simpa [Nat.blt_eq] using hlt
    simp only [Option.some.injEq] at h; subst h
    obtain ⟨w', s1, s2⟩ := run_setMap (P := P) (o' := .stringIter s (pos + (Utf8.decode s pos).2)) g2 (by intros; simp)
    refine ⟨.tuple #[.bool true, goInt pos, .int .i32 (Utf8.decode s pos).1], w', ρ, ?_, hr.wrOut hf hblk rfl e1 rfl s2 ⟨_, ⟨_, _, rfl, ⟨_, _, rfl, ⟨_, _, rfl, rfl, rfl⟩, rfl⟩, rfl⟩, rfl⟩⟩
    simp only [Instr.next, e2, Sem.run_bind, Sem.run_pure, Result.andThen_ok, run_getObj' g2, hlt, if_true, s1]
  · rename_i hlt
    have hlt : ¬ pos < s.size := by
      intro hh
      have : Nat.blt pos s.size = true := by simpa [Nat.blt_eq] using hh
      rw [this] at hlt; cases hlt
    simp only [Option.some.injEq] at h; subst h
    refine SemR.q hr hf (V := .tuple #[.bool false]) ?_ ⟨_, ⟨_, _, rfl, rfl, rfl⟩, rfl⟩
    simp only [Instr.next, e2, Sem.run_bind, Sem.run_pure, Result.andThen_ok, run_getObj' g2, hlt, if_false]
end ops
end Go.Sx

namespace Go.Sx
variable {P : Program} {ρ : Rho} {w : World} {hp : Hp} {nx : Nat}

/-- an operation's run, and what the executor says of it -/
def OpR (P : Program) (ρ : Rho) (hp : Hp) (nx : Nat) (w : World) (s : Sem Next) (r : Res) : Prop :=
  ∃ V w' ρ', (s.run P w = .ok (.value V) w' ∨ (s.run P w = .ok .skip w' ∧ V = undef)) ∧ Out ρ hp nx w r.u r.v V ρ' w'

theorem SemR.op {s : Sem Value} {r : Res} (h : SemR P ρ hp nx w s r) : OpR P ρ hp nx w (do pure (.value (← s))) r := by
  obtain ⟨V, w', ρ', h1, h2⟩ := h
  exact ⟨V, w', ρ', .inl (by simp [h1]), h2⟩

section ops
variable {ev : Ev} {va : Operand → Value} {r : Res} (hr : HRel ρ hp w) (hf : Fresh ρ nx)
include hr hf

omit hr hf in
theorem unitOp {s : Sem Unit} (h : ∃ w' ρ', s.run P w = .ok () w' ∧ Out ρ hp nx w r.u r.v undef ρ' w') : OpR P ρ hp nx w (do s; pure .skip) r := by
  obtain ⟨w', ρ', h1, h2⟩ := h
  exact ⟨undef, w', ρ', .inr ⟨by simp [h1], rfl⟩, h2⟩

theorem capRes_ok {ts : Array TypeId} {ty : TypeId} {x : RV} {X : Value} (h : capRes P ts x = some r) (hx : RVR ρ x X) : SemR P ρ hp nx w (Builtin.cap_ ts ty #[X]) r := by
  unfold capRes at h
  split at h <;> try (cases h; done)
  rename_i t x ht
  have hy : CR ρ x X := hx
  clear hx
  split at h <;> try (cases h; done)
  · rename_i hu
    simp only [intQ, Option.some.injEq] at h; subst h
    simp only [CR] at hy; subst hy
    exact SemR.q hr hf (V := .int .i64 _) (by simp [Builtin.cap_, ht, run_underlying hu, goInt]) rfl
  · rename_i hu
    simp only [intQ, Option.some.injEq] at h; subst h
    obtain ⟨_, _, _, rfl⟩ := hy
    exact SemR.q hr hf (V := .int .i64 _) (by simp [Builtin.cap_, ht, run_underlying hu, goInt]) rfl
theorem builtin_ok {b : Builtin} {ts : Array TypeId} {ty : TypeId} {cs : Array Bool} {l : List RV} {vs : List Value} (h : builtinRes P hp nx b ts l = some r)
    (hv : ∀ (i : Nat) (x : RV), l[i]? = some x → ∃ V, vs[i]? = some V ∧ RVR ρ x V) (hlen : vs.length = l.length) : OpR P ρ hp nx w (builtin b ts ty cs vs.toArray) r := by
  unfold builtinRes at h
  split at h
  · rename_i x
    obtain ⟨X, e0, h0⟩ := hv 0 _ rfl
    have : vs = [X] := by
      match vs, hlen with
      | [a], _ => simp at e0; subst e0; rfl
    subst this
    exact (lenRes_ok hr hf h h0).op
  · rename_i d s
    obtain ⟨D, e0, h0⟩ := hv 0 _ rfl
    obtain ⟨S, e1, h1⟩ := hv 1 _ rfl
    have : vs = [D, S] := by
      match vs, hlen with
      | [a, b], _ => simp at e0 e1; subst e0 e1; rfl
    subst this
    exact (copyRes_ok hr hf h h0 h1).op
  · rename_i d s
    obtain ⟨D, e0, h0⟩ := hv 0 _ rfl
    obtain ⟨S, e1, h1⟩ := hv 1 _ rfl
    have : vs = [D, S] := by
      match vs, hlen with
      | [a, b], _ => simp at e0 e1; subst e0 e1; rfl
    subst this
    exact (appendRes_ok hr hf h h0 h1).op
  · split at h <;> try (cases h; done)
    rename_i v hm
    exact (minRes_ok (s := fun a => Builtin.min_ ts ty a) hr hf hm hv hlen (fun k x y => by simp [Builtin.min_, Builtin.min2]) h).op
  · split at h <;> try (cases h; done)
    rename_i v hm
    exact (minRes_ok (s := fun a => Builtin.max_ ts ty a) hr hf hm hv hlen (fun k x y => by simp [Builtin.max_, Builtin.max2]) h).op
  · rename_i m k
    obtain ⟨M, e0, h0⟩ := hv 0 _ rfl
    obtain ⟨K, e1, h1⟩ := hv 1 _ rfl
    have : vs = [M, K] := by
      match vs, hlen with
      | [a, b], _ => simp at e0 e1; subst e0 e1; rfl
    subst this
    exact (deleteRes_ok hr hf h h0 h1).op
  · rename_i m
    obtain ⟨M, e0, h0⟩ := hv 0 _ rfl
    have : vs = [M] := by
      match vs, hlen with
      | [a], _ => simp at e0; subst e0; rfl
    subst this
    exact (clearRes_ok hr hf h h0).op
  · rename_i x
    obtain ⟨X, e0, h0⟩ := hv 0 _ rfl
    have : vs = [X] := by
      match vs, hlen with
      | [a], _ => simp at e0; subst e0; rfl
    subst this
    exact (capRes_ok hr hf h h0).op
  · cases h

theorem stCall_ok {c : Call} {ty : TypeId} (h : stCall P ev hp nx c = some r) (hx : ∀ x ∈ c.args.toList, EvR ρ ev va x) : OpR P ρ hp nx w (do let d ← resolve va c ty; invoke d.target d.args) r := by
  unfold stCall at h
  split at h <;> try (cases h; done)
  rename_i b hb
  split at h <;> try (cases h; done)
  rename_i l hl
  obtain ⟨e1, e2⟩ := evl_ok hl hx
  have hargs : c.args.map va = (c.args.toList.map va).toArray := by rw [← Array.toList_map]
  have := builtin_ok (P := P) (vs := c.args.toList.map va) (ts := c.argTypes) (ty := ty) (cs := c.args.map fun | .const _ => true | _ => false) hr hf h (fun i x hi => by
    obtain ⟨y, h1, h2⟩ := e2 i x hi
    exact ⟨va y, by simp only [List.getElem?_map, h1, Option.map_some], h2⟩) (by simp [e1])
  rw [← hargs] at this
  obtain ⟨V, w', ρ', h1, h2⟩ := this
  refine ⟨V, w', ρ', ?_, h2⟩
  simp only [resolve, hb, Sem.run_bind, Sem.run_pure, Result.andThen_ok, invoke]
  exact h1

theorem opStep_ok {o : Oper} (h : opStep P ev hp nx o.op = some r) (hx : ∀ x ∈ o.op.operands.toList, EvR ρ ev va x) : OpR P ρ hp nx w (execOp va o) r := by
  cases ho : o.op with
  | move x =>
    rw [ho] at h hx
    have := (stMove_ok (P := P) hr hf h (hx x (by simp [Op.operands]))).op
    simpa [execOp, ho] using this
  | assign x =>
    rw [ho] at h hx
    have := (stMove_ok (P := P) hr hf h (hx x (by simp [Op.operands]))).op
    simpa [execOp, ho] using this
  | pick c a b =>
    rw [ho] at h hx
    have := (stPick_ok (P := P) hr hf h (hx c (by simp [Op.operands])) (hx a (by simp [Op.operands])) (hx b (by simp [Op.operands]))).op
    obtain ⟨V, w', ρ', h1, h2⟩ := this
    exact ⟨V, w', ρ', by simp only [execOp, ho]; simpa using h1, h2⟩
  | alloc t =>
    rw [ho] at h hx
    have := (stAlloc_ok (P := P) hr hf h).op
    obtain ⟨V, w', ρ', h1, h2⟩ := this
    exact ⟨V, w', ρ', by simp only [execOp, ho]; exact h1, h2⟩
  | box t x =>
    rw [ho] at h hx
    obtain ⟨V, w', ρ', h1, h2⟩ := (stBox_ok (P := P) hr hf h (hx x (by simp [Op.operands]))).op
    exact ⟨V, w', ρ', by simp only [execOp, ho]; exact h1, h2⟩
  | build t ps =>
    rw [ho] at h hx
    obtain ⟨V, w', ρ', h1, h2⟩ := (stBuild_ok (P := P) hr hf h (fun x hx' => hx x.2 (by simp [Op.operands]; exact ⟨x.1, by simpa using hx'⟩))).op
    exact ⟨V, w', ρ', by simp only [execOp, ho]; exact h1, h2⟩
  | buildSlice t len ps =>
    rw [ho] at h hx
    obtain ⟨V, w', ρ', h1, h2⟩ := (stBuildSlice_ok (P := P) hr hf h (fun x hx' => hx x.2 (by simp [Op.operands]; exact ⟨x.1, by simpa using hx'⟩))).op
    exact ⟨V, w', ρ', by simp only [execOp, ho]; exact h1, h2⟩
  | load t a =>
    rw [ho] at h hx
    obtain ⟨V, w', ρ', h1, h2⟩ := (stLoadV_ok (P := P) hr hf h (hx a (by simp [Op.operands]))).op
    exact ⟨V, w', ρ', by simp only [execOp, ho]; exact h1, h2⟩
  | store t a x =>
    rw [ho] at h hx
    obtain ⟨V, w', ρ', h1, h2⟩ := unitOp (P := P) (stStore_ok (P := P) hr hf h (hx a (by simp [Op.operands])) (hx x (by simp [Op.operands])))
    exact ⟨V, w', ρ', by simp only [execOp, ho]; exact h1, h2⟩
  | nilCheck x =>
    rw [ho] at h hx
    obtain ⟨V, w', ρ', h1, h2⟩ := stNil_ok (P := P) hr hf ho h (hx x (by simp [Op.operands]))
    exact ⟨V, w', ρ', .inl h1, h2⟩
  | binOp op t x y yt =>
    rw [ho] at h hx
    obtain ⟨V, w', ρ', h1, h2⟩ := (stBin_ok (P := P) hr hf h (hx x (by simp [Op.operands])) (hx y (by simp [Op.operands])) x y).op
    exact ⟨V, w', ρ', by simp only [execOp, ho]; exact h1, h2⟩
  | unOp op t x =>
    rw [ho] at h hx
    obtain ⟨V, w', ρ', h1, h2⟩ := (stUn_ok (P := P) hr hf h (hx x (by simp [Op.operands]))).op
    exact ⟨V, w', ρ', by simp only [execOp, ho]; exact h1, h2⟩
  | convert src dst x =>
    rw [ho] at h hx
    obtain ⟨V, w', ρ', h1, h2⟩ := (stConvH_ok (P := P) hr hf h (hx x (by simp [Op.operands]))).op
    exact ⟨V, w', ρ', by simp only [execOp, ho]; exact h1, h2⟩
  | range t x =>
    rw [ho] at h hx
    obtain ⟨V, w', ρ', h1, h2⟩ := (stRange_ok (P := P) hr hf h (hx x (by simp [Op.operands]))).op
    exact ⟨V, w', ρ', by simp only [execOp, ho]; exact h1, h2⟩
  | next x b =>
    rw [ho] at h hx
    obtain ⟨V, w', ρ', h1, h2⟩ := (stNext_ok (P := P) (t := o.type) hr hf h (hx x (by simp [Op.operands]))).op
    exact ⟨V, w', ρ', by simp only [execOp, ho]; exact h1, h2⟩
  | sliceToArrayPointer t x =>
    rw [ho] at h hx
    obtain ⟨V, w', ρ', h1, h2⟩ := (stArr_ok (P := P) hr hf h (hx x (by simp [Op.operands]))).op
    exact ⟨V, w', ρ', by simp only [execOp, ho]; exact h1, h2⟩
  | makeFunc fn first caps =>
    rw [ho] at h hx
    obtain ⟨V, w', ρ', h1, h2⟩ := (stFunc_ok (P := P) hr hf h (fun x hx' => hx x (by simp [Op.operands]; left; simpa using hx')) (fun x hx' => hx x (by simp [Op.operands]; right; simpa using hx'))).op
    exact ⟨V, w', ρ', by simp only [execOp, ho]; exact h1, h2⟩
  | makeMap t x =>
    rw [ho] at h hx
    obtain ⟨V, w', ρ', h1, h2⟩ := (stMakeMap_ok (P := P) (va := va) (t := t) hr hf h).op
    exact ⟨V, w', ρ', by simp only [execOp, ho]; exact h1, h2⟩
  | makeSlice t l c =>
    rw [ho] at h hx
    obtain ⟨V, w', ρ', h1, h2⟩ := (stMakeSlice_ok (P := P) hr hf h (hx l (by simp [Op.operands])) (hx c (by simp [Op.operands]))).op
    exact ⟨V, w', ρ', by simp only [execOp, ho]; exact h1, h2⟩
  | slice t x lo hi mx =>
    rw [ho] at h hx
    obtain ⟨V, w', ρ', h1, h2⟩ := (stSlice_ok (P := P) hr hf h (hx x (by simp [Op.operands])) (fun y hy => hx y (by simp [Op.operands, hy])) (fun y hy => hx y (by simp [Op.operands, hy])) (fun y hy => hx y (by simp [Op.operands, hy]))).op
    exact ⟨V, w', ρ', by simp only [execOp, ho]; exact h1, h2⟩
  | fieldAddr s x f =>
    rw [ho] at h hx
    obtain ⟨V, w', ρ', h1, h2⟩ := (stFieldAddr_ok (P := P) hr hf h (hx x (by simp [Op.operands]))).op
    exact ⟨V, w', ρ', by simp only [execOp, ho]; exact h1, h2⟩
  | field t x f =>
    rw [ho] at h hx
    obtain ⟨V, w', ρ', h1, h2⟩ := (stField_ok (P := P) hr hf h (hx x (by simp [Op.operands]))).op
    exact ⟨V, w', ρ', by simp only [execOp, ho]; exact h1, h2⟩
  | indexAddr t x i =>
    rw [ho] at h hx
    obtain ⟨V, w', ρ', h1, h2⟩ := (stIndexAddr_ok (P := P) hr hf h (hx x (by simp [Op.operands])) (hx i (by simp [Op.operands]))).op
    exact ⟨V, w', ρ', by simp only [execOp, ho]; exact h1, h2⟩
  | index t x i =>
    rw [ho] at h hx
    obtain ⟨V, w', ρ', h1, h2⟩ := (stIndex_ok (P := P) hr hf h (hx x (by simp [Op.operands])) (hx i (by simp [Op.operands]))).op
    exact ⟨V, w', ρ', by simp only [execOp, ho]; exact h1, h2⟩
  | lookup t m k ok =>
    rw [ho] at h hx
    obtain ⟨V, w', ρ', h1, h2⟩ := (stLookup_ok (P := P) hr hf h (hx m (by simp [Op.operands])) (hx k (by simp [Op.operands]))).op
    exact ⟨V, w', ρ', by simp only [execOp, ho]; exact h1, h2⟩
  | mapUpdate t m k x =>
    rw [ho] at h hx
    obtain ⟨V, w', ρ', h1, h2⟩ := unitOp (P := P) (stMapUpdate_ok (P := P) hr hf h (hx m (by simp [Op.operands])) (hx k (by simp [Op.operands])) (hx x (by simp [Op.operands])))
    exact ⟨V, w', ρ', by simp only [execOp, ho]; exact h1, h2⟩
  | insert t m k x =>
    rw [ho] at h hx
    obtain ⟨V, w', ρ', h1, h2⟩ := unitOp (P := P) (stMapUpdate_ok (P := P) hr hf h (hx m (by simp [Op.operands])) (hx k (by simp [Op.operands])) (hx x (by simp [Op.operands])))
    exact ⟨V, w', ρ', by simp only [execOp, ho]; exact h1, h2⟩
  | extract x i =>
    rw [ho] at h hx
    obtain ⟨V, w', ρ', h1, h2⟩ := (stExtract_ok (P := P) hr hf h (hx x (by simp [Op.operands]))).op
    exact ⟨V, w', ρ', by simp only [execOp, ho]; exact h1, h2⟩
  | call c =>
    rw [ho] at h hx
    obtain ⟨V, w', ρ', h1, h2⟩ := stCall_ok (P := P) (ty := o.type) hr hf h (fun x hx' => hx x (by
      simp only [Op.operands, Call.operands, Array.toList_append, List.mem_append]; exact .inr hx'))
    exact ⟨V, w', ρ', by simp only [execOp, ho]; exact h1, h2⟩
  | _ => rw [ho] at h; simp [opStep] at h

end ops
end Go.Sx

namespace Go.Sx
variable {P : Program} {hp h' : Hp} {nx : Nat} {ev : Ev} {r : Res}

theorem getRow_loc {nm : Nat} (h : h' nm = hp nm) : getRow h' nm = getRow hp nm := by unfold getRow; rw [h]

theorem stLoad_loc {t : TypeId} {a : Operand} (h : stLoad P ev hp t a = some r) (hn : ∀ nm ∈ r.need, h' nm = hp nm) : stLoad P ev h' t a = some r := by
  unfold stLoad at h ⊢
  split at h <;> try (cases h; done)
  rename_i nm off hv
  split at h <;> try (cases h; done)
  rename_i k hk
  split at h
  · rename_i t' ro opn b hrow
    split at h <;> try (cases h; done)
    rename_i v hg
    have e := h
    simp only [Option.some.injEq] at h; subst h
    rw [getRow_loc (hn nm (by simp)), hrow]
    simp only [hg]
  · rename_i hrow
    split at h <;> try (cases h; done)
    rename_i v hg
    have e := h
    simp only [Option.some.injEq] at h; subst h
    rw [getRow_loc (hn nm (by simp)), hrow, hn nm (by simp)]
    simp only [hg]

theorem stLoadV_loc {t : TypeId} {a : Operand} (h : stLoadV P ev hp t a = some r) (hn : ∀ nm ∈ r.need, h' nm = hp nm) : stLoadV P ev h' t a = some r := by
  unfold stLoadV at h ⊢
  split at h
  · exact h
  · exact stLoad_loc h hn
theorem stStore_loc {t : TypeId} {a x : Operand} (h : stStore P ev hp t a x = some r) (hn : ∀ nm ∈ r.need, h' nm = hp nm) : stStore P ev h' t a x = some r := by
  unfold stStore at h ⊢
  split at h <;> try (cases h; done)
  rename_i nm off hv
  split at h <;> try (cases h; done)
  rename_i v hvx
  split at h <;> try (cases h; done)
  rename_i ti hti
  split at h <;> try (cases h; done)
  rename_i hsz
  split at h <;> try (cases h; done)
  rename_i u hu
  simp only [Option.some.injEq] at h; subst h
  have : setAt h' nm off v = setAt hp nm off v := by unfold setAt; rw [getRow_loc (hn nm (by simp))]
  simp only [hsz, if_true, this, hu]

theorem stLookup_loc {t : TypeId} {m k : Operand} {ok : Bool} (h : stLookup P ev hp t m k ok = some r) (hn : ∀ nm ∈ r.need, h' nm = hp nm) : stLookup P ev h' t m k ok = some r := by
  unfold stLookup at h ⊢
  split at h <;> try (cases h; done)
  split at h <;> try (cases h; done)
  rename_i mc hmc
  split at h <;> try (cases h; done)
  rename_i kc hkc
  split at h <;> try (cases h; done)
  rename_i z hz
  split at h
  · rename_i nm v t hvs
    split at h <;> try (cases h; done)
    rename_i hko
    have e := h
    simp only [Option.some.injEq] at h; subst h
    have : lookVS h' mc kc = lookVS hp mc kc := by
      unfold lookVS at hvs ⊢
      split at hvs <;> try rfl
      rename_i nm'
      split at hvs <;> try (cases hvs; done)
      all_goals
        rename_i hblk
        simp only [Option.some.injEq, Prod.mk.injEq] at hvs
        rw [hn nm' (by simp [hvs.1]), hblk]
    rw [this, hvs]
    simp only
    rw [if_pos hko]
  rename_i hvs
  have hvs' : (∀ nm ∈ r.need, h' nm = hp nm) → (∀ nm, mc = .map nm → nm ∈ r.need) → lookVS h' mc kc = none := fun h1 h2 => by
    rw [← hvs]
    unfold lookVS
    cases mc <;> try rfl
    rename_i nm
    simp only
    rw [h1 nm (h2 nm rfl)]
  split at h
  · rename_i nm es hmp
    split at h <;> try (cases h; done)
    rename_i hko
    have hnd : r.need = [nm] := by
      unfold lookP at h
      split at h <;> first | (simp only [Option.some.injEq] at h; subst h; rfl) | (cases h; done)
    have : mapPof h' mc = mapPof hp mc := by
      unfold mapPof at hmp ⊢
      split at hmp <;> try rfl
      rename_i nm'
      split at hmp <;> try (cases hmp; done)
      rename_i hblk
      simp only [Option.some.injEq, Prod.mk.injEq] at hmp
      rw [hn nm' (by rw [hnd, hmp.1]; simp), hblk]
    rw [hvs' hn (fun nm' e => by
      subst e
      unfold mapPof at hmp
      simp only at hmp
      split at hmp <;> try (cases hmp; done)
      simp only [Option.some.injEq, Prod.mk.injEq] at hmp
      rw [hnd, hmp.1]; simp), this, hmp]
    simp only [hko, if_true]
    exact h
  rename_i hmp
  split at h <;> try (cases h; done)
  rename_i es nd hes
  have hmp' : mapPof h' mc = none := by
    have hnd' : r.need = nd := by
      split at h <;> try (cases h; done)
      unfold lookRes at h
      split at h <;> first | (simp only [Option.some.injEq] at h; subst h; rfl) | (cases h; done)
    unfold mapPof at hmp ⊢
    split at hmp
    · rename_i nm'
      unfold mapEs at hes
      simp only at hes
      split at hes <;> try (cases hes; done)
      all_goals
        rename_i hblk
        simp only [Option.some.injEq, Prod.mk.injEq] at hes
        rw [hn nm' (by rw [hnd', ← hes.2]; simp), hblk]
    · rfl
  rw [hmp', hvs' hn (fun nm' e => by
    have hnd' : r.need = nd := by
      split at h <;> try (cases h; done)
      unfold lookRes at h
      split at h <;> first | (simp only [Option.some.injEq] at h; subst h; rfl) | (cases h; done)
    subst e
    unfold mapEs at hes
    simp only at hes
    split at hes <;> try (cases hes; done)
    all_goals
      simp only [Option.some.injEq, Prod.mk.injEq] at hes
      rw [hnd', ← hes.2]; simp)]
  simp only
  split at h <;> try (cases h; done)
  rename_i hko
  have hnd : r.need = nd := by
    unfold lookRes at h
    split at h <;> first | (simp only [Option.some.injEq] at h; subst h; rfl) | (cases h; done)
  have : mapEs h' mc = mapEs hp mc := by
    unfold mapEs at hes ⊢
    split at hes <;> try rfl
    rename_i nm
    split at hes <;> try (cases hes; done)
    all_goals
      rename_i hblk
      simp only [Option.some.injEq, Prod.mk.injEq] at hes
      rw [hn nm (by rw [hnd, ← hes.2]; simp), hblk]
  simp only [this, hes, hko, if_true]
  exact h

theorem stMapUpdate_loc {t : TypeId} {m k x : Operand} (h : stMapUpdate P ev hp t m k x = some r) (hn : ∀ nm ∈ r.need, h' nm = hp nm) : stMapUpdate P ev h' t m k x = some r := by
  unfold stMapUpdate at h ⊢
  split at h <;> try (cases h; done)
  rename_i nm hmc
  split at h <;> try (cases h; done)
  split at h <;> try (cases h; done)
  split at h <;> try (cases h; done)
  · rename_i es hblk
    split at h <;> try (cases h; done)
    rename_i hko
    have hnd : nm ∈ r.need := by
      unfold mapPut at h
      split at h <;> first | (simp only [Option.some.injEq] at h; subst h; simp) | (cases h; done)
    simp only [hn nm hnd, hblk, hko, if_true]
    exact h
  · rename_i vk l hblk
    split at h <;> try (cases h; done)
    rename_i hko
    have hnd : nm ∈ r.need := by
      unfold mapPutI at h
      split at h <;> try (cases h; done)
      split at h <;> first | (simp only [Option.some.injEq] at h; subst h; simp) | (cases h; done)
    simp only [hn nm hnd, hblk, hko, if_true]
    exact h
  · rename_i l hblk
    split at h <;> try (cases h; done)
    rename_i hko
    have hnd : nm ∈ r.need := by
      unfold mapPutV at h
      split at h <;> first | (simp only [Option.some.injEq] at h; subst h; simp) | (cases h; done)
    simp only [hn nm hnd, hblk, hko, if_true]
    exact h
  · rename_i l hblk
    split at h <;> try (cases h; done)
    rename_i hko
    have hnd : nm ∈ r.need := by
      unfold mapPutT at h
      split at h <;> first | (simp only [Option.some.injEq] at h; subst h; simp) | (cases h; done)
    simp only [hn nm hnd, hblk, hko, if_true]
    exact h

theorem srcBody_loc {s : Nat} {n : Option Nat} {x : Cell} {from_ : Option Nat} {m : Nat} {b : Option Body} (h : srcBody hp s n x = some (from_, m, b)) (hn : ∀ nm ∈ needOf from_, h' nm = hp nm) :
    srcBody h' s n x = some (from_, m, b) := by
  unfold srcBody at h ⊢
  split at h
  · exact h
  · split at h <;> try (cases h; done)
    · exact h
    · rename_i nm off len hs
      split at h <;> try (cases h; done)
      rename_i b2 hcut
      have e := h
      simp only [Option.some.injEq, Prod.mk.injEq] at e
      obtain ⟨e1, e2, e3⟩ := e
      subst e1
      have : rowOrWin h' nm off (lenBy n len * s) = rowOrWin hp nm off (lenBy n len * s) := by unfold rowOrWin; rw [hn nm (by simp [needOf])]
      simp only [this, hcut]
      exact h

theorem rowCut_loc {nm off n : Nat} (h : h' nm = hp nm) : rowCut h' nm off n = rowCut hp nm off n := by unfold rowCut; rw [getRow_loc h]

theorem lenRes_loc {ts : Array TypeId} {x : RV} (h : lenRes P hp ts x = some r) (hn : ∀ nm ∈ r.need, h' nm = hp nm) : lenRes P h' ts x = some r := by
  unfold lenRes at h ⊢
  split at h <;> try (cases h; done)
  split at h <;> try (cases h; done)
  · exact h
  · exact h
  · unfold lenMap at h ⊢
    split at h <;> try (cases h; done)
    · exact h
    · rename_i nm
      split at h <;> try (cases h; done)
      all_goals
      rename_i es hblk
      have e := h
      simp only [intQ, Option.some.injEq] at e; subst e
      simp only [hn nm (by simp), hblk]
      exact h
  · exact h

theorem copyRes_loc {ts : Array TypeId} {d s : RV} (h : copyRes P hp ts d s = some r) (hn : ∀ nm ∈ r.need, h' nm = hp nm) : copyRes P h' ts d s = some r := by
  unfold copyRes at h ⊢
  split at h <;> try (cases h; done)
  rename_i dt dc sc ht
  split at h <;> try (cases h; done)
  rename_i e hu
  split at h <;> try (cases h; done)
  rename_i ti hti
  split at h <;> try (cases h; done)
  · split at h <;> try (cases h; done)
    rename_i f m b hsrc
    simp only [Option.some.injEq] at h; subst h
    simp only [srcBody_loc hsrc hn]
  · rename_i nm off len hp0
    unfold copyTo at h ⊢
    split at h <;> try (cases h; done)
    rename_i f m b hsrc
    split at h
    · simp only [Option.some.injEq] at h; subst h
      simp only [srcBody_loc hsrc hn]
    · rename_i m
      split at h <;> try (cases h; done)
      rename_i xb
      split at h <;> try (cases h; done)
      rename_i t o bd hrow
      split at h <;> try (cases h; done)
      rename_i bd' hput
      simp only [Option.some.injEq] at h; subst h
      have := srcBody_loc (h' := h') hsrc (fun nm' hm => hn nm' (List.mem_cons_of_mem _ hm))
      simp only [this, getRow_loc (hn nm (by simp)), hrow, hput]

theorem deleteRes_loc {ts : Array TypeId} {m k : RV} (h : deleteRes P hp ts m k = some r) (hn : ∀ nm ∈ r.need, h' nm = hp nm) : deleteRes P h' ts m k = some r := by
  unfold deleteRes at h ⊢
  split at h <;> try (cases h; done)
  rename_i t nm kc ht
  split at h <;> try (cases h; done)
  rename_i es hblk
  split at h <;> try (cases h; done)
  rename_i hko
  have hnd : nm ∈ r.need := by
    unfold delRes at h
    split at h <;> first | (simp only [Option.some.injEq] at h; subst h; simp) | (cases h; done)
  simp only [hn nm hnd, hblk, hko, if_true]
  exact h

theorem clearRes_loc {ts : Array TypeId} {m : RV} (h : clearRes P hp ts m = some r) (hn : ∀ nm ∈ r.need, h' nm = hp nm) : clearRes P h' ts m = some r := by
  unfold clearRes at h ⊢
  split at h <;> try (cases h; done)
  rotate_left
  · rename_i t x _ ht
    split at h <;> try (cases h; done)
    rename_i e hu
    unfold clearSl at h ⊢
    split at h <;> try (cases h; done)
    rename_i ti z hti hz
    split at h <;> try (cases h; done)
    rename_i hsz
    simp only [hsz, if_true]
    split at h <;> try (cases h; done)
    · rename_i hp0
      exact h
    · rename_i nm off len hp0
      split at h
      · exact h
      · split at h <;> try (cases h; done)
        rename_i t' o bd hrow
        have hnd : nm ∈ r.need := by
          split at h <;> try (cases h; done)
          simp only [Option.some.injEq] at h; subst h; simp
        simp only [getRow_loc (hn nm hnd), hrow]
        exact h
  rename_i t nm ht
  split at h <;> try (cases h; done)
  rename_i kt e hu
  split at h <;> try (cases h; done)
  rename_i es hblk
  have hnd : nm ∈ r.need := by simp only [Option.some.injEq] at h; subst h; simp
  simp only [hn nm hnd, hblk]
  exact h

theorem appendRes_loc {ts : Array TypeId} {d s : RV} (h : appendRes P hp nx ts d s = some r) (hn : ∀ nm ∈ r.need, h' nm = hp nm) : appendRes P h' nx ts d s = some r := by
  unfold appendRes at h ⊢
  split at h <;> try (cases h; done)
  rename_i dt dc sc ht
  split at h <;> try (cases h; done)
  rename_i e hu
  split at h <;> try (cases h; done)
  rename_i ti hti
  split at h <;> try (cases h; done)
  rename_i z hz
  split at h <;> try (cases h; done)
  rename_i hcond
  simp only [hcond, and_self, if_true]
  unfold appGo at h ⊢
  split at h <;> try (cases h; done)
  rename_i f n x hsrc
  split at h
  · have hnd : ∀ nm ∈ needOf f, nm ∈ r.need := by
      intro nm hm
      unfold appNil at h
      split at h
      · simp only [Option.some.injEq] at h; subst h; exact hm
      · split at h <;> try (cases h; done)
        split at h <;> try (cases h; done)
        simp only [Option.some.injEq] at h; subst h; exact hm
    simp only [srcBody_loc hsrc fun nm hm => hn nm (hnd nm hm)]
    exact h
  · rename_i nm off len cap
    unfold appSl at h
    split at h
    · split at h <;> try (cases h; done)
      rename_i hle
      simp only [Option.some.injEq] at h; subst h
      simp only [srcBody_loc hsrc hn, appSl, hle, if_true]
    · rename_i m
      split at h
      rotate_left
      · rename_i hc0
        split at h <;> try (cases h; done)
        rename_i hle
        have hnd : r.need = nm :: needOf f := by
          unfold appIn at h
          split at h <;> try (cases h; done)
          split at h <;> try (cases h; done)
          simp only [Option.some.injEq] at h; subst h; rfl
        simp only [srcBody_loc hsrc fun nm' hm => hn nm' (by rw [hnd]; exact List.mem_cons_of_mem _ hm), appSl]
        rw [if_neg hc0, if_pos hle]
        unfold appIn at h ⊢
        rw [getRow_loc (hn nm (by rw [hnd]; simp))]
        exact h
      rename_i hc
      have hnd : r.need = nm :: needOf f := by
        unfold appNew at h
        split at h <;> try (cases h; done)
        split at h <;> try (cases h; done)
        simp only [Option.some.injEq] at h; subst h; rfl
      simp only [srcBody_loc hsrc fun nm' hm => hn nm' (by rw [hnd]; exact List.mem_cons_of_mem _ hm), appSl]
      rw [rowCut_loc (hn nm (by rw [hnd]; simp)), if_pos hc]
      exact h
  · rename_i nm sz a len
    unfold appSlu at h
    split at h
    · simp only [Option.some.injEq] at h; subst h
      simp only [srcBody_loc hsrc hn, appSlu]
    · rename_i m
      split at h <;> try (cases h; done)
      rename_i hc
      split at h <;> try (cases h; done)
      rename_i t sz' bd hrow
      split at h <;> try (cases h; done)
      rename_i hc2
      have hnd : r.need = nm :: needOf f := by
        unfold appMv at h
        split at h <;> try (cases h; done)
        split at h <;> try (cases h; done)
        simp only [Option.some.injEq] at h; subst h; rfl
      simp only [srcBody_loc hsrc fun nm' hm => hn nm' (by rw [hnd]; exact List.mem_cons_of_mem _ hm), appSlu]
      rw [getRow_loc (hn nm (by rw [hnd]; simp)), hrow, if_pos hc]
      simp only [hc2, and_self, if_true]
      obtain ⟨rfl, rfl⟩ := hc2
      exact h
  · cases h

theorem stCall_loc {c : Call} (h : stCall P ev hp nx c = some r) (hn : ∀ nm ∈ r.need, h' nm = hp nm) : stCall P ev h' nx c = some r := by
  unfold stCall at h ⊢
  split at h <;> try (cases h; done)
  split at h <;> try (cases h; done)
  rename_i l hl
  unfold builtinRes at h ⊢
  split at h
  · exact lenRes_loc h hn
  · exact copyRes_loc h hn
  · exact appendRes_loc h hn
  · exact h
  · exact h
  · exact deleteRes_loc h hn
  · exact clearRes_loc h hn
  · exact h
  · cases h

theorem stConvH_loc {a b : TypeId} {x : Operand} (h : stConvH P ev hp nx a b x = some r) (hn : ∀ nm ∈ r.need, h' nm = hp nm) : stConvH P ev h' nx a b x = some r := by
  unfold stConvH at h ⊢
  cases hc : stConv P ev a b x with
  | some r' => rw [hc] at h; exact h
  | none =>
    rw [hc] at h
    simp only at h ⊢
    unfold stConvS at h ⊢
    split at h
    · exact h
    · rename_i c _ hv
      split at h <;> try (cases h; done)
      rotate_left
      · rename_i e0 e h1 h2
        split at h <;> try (cases h; done)
        rename_i nm off len cap h3 _
        split at h <;> try (cases h; done)
        rename_i t o b hblk hsd
        have hnd : nm ∈ r.need := by simp only [Option.some.injEq] at h; subst h; simp
        simp only [h3, hn nm hnd, hblk, hsd]
        exact h
      rename_i e h1 h2
      split at h <;> try (cases h; done)
      rename_i h3
      split at h <;> try (cases h; done)
      rename_i s nd hb
      have hnd : r.need = nd := by simp only [Option.some.injEq] at h; subst h; rfl
      have : bytesC h' c = some (s, nd) := by
        unfold bytesC at hb ⊢
        split at hb
        · exact hb
        · split at hb
          · rename_i nm m l n hs
            simp only [Option.some.injEq, Prod.mk.injEq] at hb
            rw [srcBody_loc hs (fun nm' hm => hn nm' (by rw [hnd, ← hb.2]; exact hm))]
            simp only [hb.1, hb.2]
          · rename_i nm m cs hs
            split at hb <;> try (cases hb; done)
            rename_i l hl
            simp only [Option.some.injEq, Prod.mk.injEq] at hb
            rw [srcBody_loc hs (fun nm' hm => hn nm' (by rw [hnd, ← hb.2]; exact hm))]
            simp only [hl, hb.1, hb.2]
          · cases hb
      simp only [h3, this]
      exact h
    · cases h
theorem stNext_loc {x : Operand} {b : Bool} (h : stNext ev hp x b = some r) (hn : ∀ nm ∈ r.need, h' nm = hp nm) : stNext ev h' x b = some r := by
  unfold stNext at h ⊢
  split at h <;> try (cases h; done)
  rename_i nm hv
  split at h <;> try (cases h; done)
  rename_i s pos hblk
  have hnd : nm ∈ r.need := by
    split at h <;> (simp only [Option.some.injEq] at h; subst h; simp)
  simp only [hn nm hnd, hblk]
  exact h
theorem opStep_loc {o : Op} (h : opStep P ev hp nx o = some r) (hn : ∀ nm ∈ r.need, h' nm = hp nm) : opStep P ev h' nx o = some r := by
  cases o with
  | load t a => exact stLoadV_loc h hn
  | store t a x => exact stStore_loc h hn
  | lookup t m k ok => exact stLookup_loc h hn
  | mapUpdate t m k x => exact stMapUpdate_loc h hn
  | insert t m k x => exact stMapUpdate_loc h hn
  | call c => exact stCall_loc h hn
  | convert a b x => exact stConvH_loc h hn
  | next x b => exact stNext_loc h hn
  | _ => exact h

end Go.Sx

namespace Go.Sx
variable {P : Program}
/-! ## No fence at all, in a round (ro) or not -/
abbrev FR (ro : Option Nat) : Fence := { fn := fun _ => True, depth := none, alive := false, round := ro }
theorem calls_FR {ro : Option Nat} {n : Nat} {f : FuncId} {args : Array Value} {w : World} {R : Ending → World → Prop} (h : Calls P f args w R) : CallsIn (FR ro) n P f args w R := (callsIn_wide (n := n)).2 h
theorem round_FR {ro : Option Nat} {n m l : Nat} {f : FuncId} {tmps : Array Value} {as bd : Code} {w : World} {R : Ending → World → Prop} (h : RoundIn Fence.wide n P l f tmps as bd w R) : RoundIn (FR ro) m P l f tmps as bd w R :=
  ⟨trivial, fun c cs _ => h.2 c cs (room_wide _)⟩
theorem depth_FR {ro : Option Nat} {p : Prop} : (FR ro).depth.isSome = true → p := fun h => by cases h
theorem rounds_FR {c : Code} {Q : Exit → Act → World → Prop} : ∀ {m : Nat} {a : Act} {w : World}, Code.roundsIn (FR none) 0 P c Q m a w → Code.rounds P c Q m a w
  | 0, _, _, h => h
  | m + 1, a, w, h => by
    have h' := wpIn_wide.1 h
    rw [rounds_succ]
    refine wp_mono h' fun e a w hq => ?_
    cases e with
    | normal => exact rounds_FR hq
    | _ => exact hq
end Go.Sx

namespace Go.Sx

def Top (s : S) : Prop := ∀ nm, s.nx ≤ nm → s.hp.get nm = none

structure Abs (s s' : S) (L : List Nat) : Prop where
  lg : s'.lg = L ++ s.lg
  le : s.nx ≤ s'.nx
  keep : ∀ nm, nm < s.nx → nm ∉ L → s'.hp.get nm = s.hp.get nm
  top : Top s'
  lt : ∀ nm, nm ∈ L → nm < s'.nx

theorem Abs.refl {s : S} (h : Top s) : Abs s s [] := ⟨rfl, Nat.le_refl _, fun _ _ _ => rfl, h, fun _ h => by cases h⟩

theorem Abs.trans {s1 s2 s3 : S} {L1 L2 : List Nat} (a : Abs s1 s2 L1) (b : Abs s2 s3 L2) : Abs s1 s3 (L2 ++ L1) where
  lg := by rw [b.lg, a.lg, List.append_assoc]
  le := Nat.le_trans a.le b.le
  keep := fun nm h hn => by
    rw [List.mem_append, not_or] at hn
    rw [b.keep nm (Nat.lt_of_lt_of_le h a.le) hn.1, a.keep nm h hn.2]
  top := b.top
  lt := fun nm h => by
    rcases List.mem_append.1 h with h | h
    · exact b.lt nm h
    · exact Nat.lt_of_lt_of_le (a.lt nm h) b.le

noncomputable def slot (n : Nat) (sl : T RV) (t : Nat) : RV := (if t < n then sl.get t else none).getD und

theorem eval_tmp (n : Nat) (sl : T RV) (t : Nat) : eval n sl (.tmp t) = some (slot n sl t) := by
  show (if t < n then (match sl.get t with | some v => some v | none => some und) else some und) = _
  unfold slot
  split
  · cases sl.get t <;> rfl
  · rfl

variable {P : Program} {ρ : Rho} {w : World}

theorem und_ok : RVR ρ und undef := ⟨[], rfl, rfl⟩

theorem eval_ok {n : Nat} {sl : T RV} {a : Act} {x : Operand} (h : ∀ t, x = .tmp t → RVR ρ (slot n sl t) (a.tmps.getD t undef)) : EvR ρ (eval n sl) a.eval x := by
  intro v hv
  cases x with
  | tmp t =>
    rw [eval_tmp, Option.some.injEq] at hv
    subst hv
    exact h t rfl
  | const c =>
    simp only [eval] at hv
    split at hv
    · rename_i l
      split at hv <;> try (cases hv; done)
      rename_i hl
      simp only [Option.some.injEq] at hv; subst hv
      have : l = #[] := by cases l; simp_all
      subst this
      exact und_ok
    · split at hv <;> try (cases hv; done)
      rename_i c' hc
      simp only [Option.some.injEq] at hv; subst hv
      exact cellOf_ok (ρ := ρ) hc
  | global g => simp [eval] at hv
  | func f =>
    simp only [eval, Option.some.injEq] at hv; subst hv
    exact ⟨[], [], rfl, rfl, rfl⟩

section upd
variable {β : Type}

theorem applyU_ok {z : Bool} {u : Upd} {s : S} {k : S → Option β} {r : β} (h : applyU z u s k = some r) :
    ∃ s', k s' = some r ∧ s'.sl = s.sl ∧ s'.hp.get = u.hp s.hp.get s.nx ∧ s'.nx = u.nx s.nx ∧ s'.lg = u.log ++ s.lg ∧ (∀ nm, nm ∈ u.log → nm < s.nx) := by
  cases u with
  | none => exact ⟨s, h, rfl, rfl, rfl, rfl, by simp [Upd.log]⟩
  | new b =>
    simp only [applyU, sBlk_eq] at h
    obtain ⟨t, h1, h2⟩ := T.set_ok _ _ _ _ _ _ h
    rw [fNat_eq] at h1
    exact ⟨_, h1, rfl, funext fun j => by rw [h2]; rfl, rfl, rfl, by simp [Upd.log]⟩
  | wr nm b =>
    simp only [applyU, sBlk_eq] at h
    cases hb : Nat.blt nm s.nx with
    | false => rw [hb] at h; cases h
    | true =>
      rw [hb] at h
      obtain ⟨t, h1, h2⟩ := T.set_ok _ _ _ _ _ _ h
      refine ⟨_, h1, rfl, funext fun j => by rw [h2]; rfl, rfl, rfl, ?_⟩
      intro nm' e
      simp only [Upd.log, List.mem_singleton] at e
      rw [e]
      exact Nat.le_of_ble_eq_true hb
  | mv nm b =>
    simp only [applyU, sBlk_eq] at h
    cases hb : Nat.blt nm s.nx with
    | false => rw [hb] at h; cases h
    | true =>
      rw [hb] at h
      obtain ⟨t, h1, h2⟩ := T.set_ok _ _ _ _ _ _ h
      obtain ⟨t', h3, h4⟩ := T.set_ok _ _ _ _ _ _ h1
      rw [fNat_eq] at h3
      refine ⟨_, h3, rfl, funext fun j => ?_, rfl, rfl, ?_⟩
      · rw [h4]
        simp only [Upd.hp, upd, h2]
      · intro nm' e
        simp only [Upd.log, List.mem_singleton] at e
        rw [e]
        exact Nat.le_of_ble_eq_true hb

theorem putDst_ok {n : Nat} {d : Option Tmp} {v : RV} {s : S} {k : S → Option β} {r : β} (h : putDst n d v s k = some r) :
    ∃ s', k s' = some r ∧ s'.hp = s.hp ∧ s'.nx = s.nx ∧ s'.lg = s.lg ∧ (∀ i, s'.sl.get i = if d = some i then some v else s.sl.get i) ∧ (∀ d', d = some d' → d' < n) := by
  cases d with
  | none => exact ⟨s, h, rfl, rfl, rfl, by simp, by simp⟩
  | some d =>
    simp only [putDst] at h
    split at h <;> try (cases h; done)
    rename_i hlt
    obtain ⟨t, h1, h2⟩ := T.set_ok _ _ _ _ _ _ h
    refine ⟨_, h1, rfl, rfl, rfl, fun i => ?_, ?_⟩
    · rw [h2]
      by_cases e : i = d
      · subst e; simp
      · have : ¬ (some d = some i) := by intro h; cases h; exact e rfl
        simp [e, this]
    · intro d' hd; cases hd; exact hlt
end upd

theorem HRel.none {h : Hp} {nx i : Nat} (hr : HRel ρ h w) (hf : Fresh ρ nx) (hi : nx ≤ i) : h i = none := by
  cases hx : h i with
  | none => rfl
  | some x =>
    obtain ⟨b, c, o, g1, _⟩ := hr.ok i x hx
    rw [hf i hi] at g1; cases g1

/-! ## Frames: what a call does to its part of the heap it does to the whole -/
theorem Stp.lift {h sub sub' : Hp} {nx nx' : Nat} {w' : World} {ρ' : Rho} {L : List Nat} (hr : HRel ρ h w) (hf : Fresh ρ nx) (hs : ∀ i x, sub i = some x → h i = some x)
    (st : Stp ρ sub nx w ρ' sub' nx' w' L) (hr' : HRel ρ' sub' w') :
    ∃ h', HRel ρ' h' w' ∧ Stp ρ h nx w ρ' h' nx' w' L ∧ (∀ nm, nm ∈ L ∨ nx ≤ nm → h' nm = sub' nm) := by
  let inn : Nat → Bool := fun nm => decide (nm ∈ L) || decide (nx ≤ nm)
  let h' : Hp := fun nm => if inn nm = true then sub' nm else h nm
  have hin : ∀ nm, nm ∈ L ∨ nx ≤ nm → h' nm = sub' nm := by
    intro nm hm
    show (if inn nm = true then sub' nm else h nm) = sub' nm
    rw [if_pos]
    simpa [inn] using hm
  have hout : ∀ nm, nm ∉ L → nm < nx → h' nm = h nm := by
    intro nm h1 h2
    show (if inn nm = true then sub' nm else h nm) = h nm
    rw [if_neg]
    simp [inn, h1]; exact h2
  have noW : ∀ nm b c x, nm ∉ L → nm < nx → h nm = some x → ρ nm = some (b, c) → ∀ nm0 c0, nm0 ∈ L → nm0 < nx → ρ nm0 ≠ some (b, c0) := by
    intro nm b c x h1 h2 h3 h4 nm0 c0 h5 h6 h7
    obtain ⟨x0, o1, o2⟩ := st.own nm0 h5 h6
    have := hr.inj nm0 nm x0 x b c0 c (hs _ _ o1) h3 o2 h7 h4
    subst this
    exact h1 h5
  have mixed : ∀ i j p q b c c', (i ∈ L ∨ nx ≤ i) → j ∉ L → j < nx → sub' i = some p → h j = some q → ρ' i = some (b, c) → ρ j = some (b, c') → False := by
    intro i j p q b c c' hi hj1 hj2 h1 h2 h3 h4
    by_cases hlt : i < nx
    · have hi : i ∈ L := hi.resolve_right (by omega)
      rw [st.rho i hlt] at h3
      exact noW j b c' q hj1 hj2 h2 h4 i c hi hlt h3
    · rcases st.new i b c (by omega) h3 with h | ⟨nm0, c0, m1, m2, m3⟩
      · obtain ⟨b', c'', o, g1, g2, _⟩ := hr.ok j q h2
        rw [h4] at g1
        simp only [Option.some.injEq, Prod.mk.injEq] at g1
        obtain ⟨rfl, _⟩ := g1
        have := lt_of_get g2
        omega
      · exact noW j b c' q hj1 hj2 h2 h4 nm0 c0 m1 m2 m3
  refine ⟨h', ⟨?_, ?_, ?_⟩, ?_, hin⟩
  · intro nm x hx
    by_cases hc : nm ∈ L ∨ nx ≤ nm
    · rw [hin nm hc] at hx
      exact hr'.ok nm x hx
    · rw [not_or] at hc
      have hlt : nm < nx := by omega
      rw [hout nm hc.1 hlt] at hx
      obtain ⟨b, c, o, g1, g2, g3⟩ := hr.ok nm x hx
      refine ⟨b, c, o, by rw [st.rho nm hlt]; exact g1, ?_, g3.mono (st.sub hf)⟩
      rw [st.frame b (lt_of_get g2) fun nm0 c0 m1 m2 => noW nm b c x hc.1 hlt hx g1 nm0 c0 m1 m2]
      exact g2
  · intro i j p q b c c' hp1 hq1 hw h1 h2
    by_cases hi : i ∈ L ∨ nx ≤ i <;> by_cases hj : j ∈ L ∨ nx ≤ j
    · rw [hin i hi] at hp1
      rw [hin j hj] at hq1
      exact hr'.inj _ _ _ _ _ _ _ hp1 hq1 hw h1 h2
    · rw [not_or] at hj
      have hlt : j < nx := by omega
      rw [hin i hi] at hp1
      rw [hout j hj.1 hlt] at hq1
      rw [st.rho j hlt] at h2
      exact (mixed i j p q b c c' hi hj.1 hlt hp1 hq1 h1 h2).elim
    · rw [not_or] at hi
      have hlt : i < nx := by omega
      rw [hin j hj] at hq1
      rw [hout i hi.1 hlt] at hp1
      rw [st.rho i hlt] at h1
      exact (mixed j i q p b c' c hj hi.1 hlt hq1 hp1 h2 h1).elim
    · rw [not_or] at hi hj
      rw [hout i hi.1 (by omega)] at hp1
      rw [hout j hj.1 (by omega)] at hq1
      rw [st.rho i (by omega)] at h1
      rw [st.rho j (by omega)] at h2
      exact hr.inj _ _ _ _ _ _ _ hp1 hq1 hw h1 h2
  · intro b l hb
    refine ⟨(hr'.fz b l hb).1, fun nm x c hx hw he => ?_⟩
    by_cases hc : nm ∈ L ∨ nx ≤ nm
    · rw [hin nm hc] at hx
      exact (hr'.fz b l hb).2 nm x c hx hw he
    · rw [not_or] at hc
      have hlt : nm < nx := by omega
      rw [hout nm hc.1 hlt] at hx
      rw [st.rho nm hlt] at he
      rcases st.fzn b l hb with h | h | ⟨nm0, c0, m1, m2, m3⟩
      · exact (hr.fz b l h).2 nm x c hx hw he
      · obtain ⟨b', c'', o, g1, g2, _⟩ := hr.ok nm x hx
        rw [he] at g1
        simp only [Option.some.injEq, Prod.mk.injEq] at g1
        obtain ⟨rfl, _⟩ := g1
        have := lt_of_get g2
        omega
      · exact noW nm b c x hc.1 hlt hx he nm0 c0 m1 m2 m3
  · exact ⟨st.le, st.rho, fun nm h1 h2 => hout nm h2 h1, st.size, st.frame, st.new, fun nm h1 h2 => by
      obtain ⟨x, o1, o2⟩ := st.own nm h1 h2
      exact ⟨x, hs _ _ o1, o2⟩, st.os, st.tape, st.out, st.fzk, st.fzn⟩

/-! ## One operation -/
structure CallInfo (P : Program) (f : FuncId) (args : List RV) (s : S) (v : RV) (s' : S) (L : List Nat) : Prop where
  fn : ∃ fn, P.funcs[f]? = some fn ∧ fn.body.isNone = false
  sl : s'.sl = s.sl
  abs : Abs s s' L
  run : ∀ (ρ : Rho) (w : World) (vs : List Value), HRel ρ s.hp.get w → Fresh ρ s.nx → ArgsR ρ args vs → Calls P f vs.toArray w fun e w' =>
    ∃ V ρ', e = .returned V ∧ RVR ρ' v V ∧ HRel ρ' s'.hp.get w' ∧ Fresh ρ' s'.nx ∧ Stp ρ s.hp.get s.nx w ρ' s'.hp.get s'.nx w' L

/-- a round of a range over a function -/
structure YInfo (P : Program) (nm : Nat) (args : List RV) (s : S) (v : RV) (s' : S) (L : List Nat) : Prop where
  sl : s'.sl = s.sl
  abs : Abs s s' L
  run : ∀ (ρ : Rho) (w : World) (vs : List Value) (b c : Nat), HRel ρ s.hp.get w → Fresh ρ s.nx → ArgsR ρ args vs → ρ nm = some (b, c) → ∃ (f : FuncId) (tmps : Array Value) (as bd : Code),
    (Instr.yield b vs.toArray).run P w = .ok (.round b f tmps as bd) w ∧ RoundIn Fence.wide 0 P b f tmps as bd w fun e w' =>
      ∃ V ρ', e = .returned V ∧ RVR ρ' v V ∧ HRel ρ' s'.hp.get w' ∧ Fresh ρ' s'.nx ∧ Stp ρ s.hp.get s.nx w ρ' s'.hp.get s'.nx w' L

def TInfo (P : Program) (f : FuncId) (args : List RV) (s : S) (v : RV) (s' : S) (L : List Nat) : Prop :=
  (f < YB ∧ CallInfo P f args s v s' L) ∨ (YB ≤ f ∧ YInfo P (f - YB) args s v s' L)
theorem TInfo.sl {f : FuncId} {args : List RV} {s : S} {v : RV} {s' : S} {L : List Nat} (h : TInfo P f args s v s' L) : s'.sl = s.sl := by rcases h with ⟨_, h⟩ | ⟨_, h⟩ <;> exact h.sl
theorem TInfo.abs {f : FuncId} {args : List RV} {s : S} {v : RV} {s' : S} {L : List Nat} (h : TInfo P f args s v s' L) : Abs s s' L := by rcases h with ⟨_, h⟩ | ⟨_, h⟩ <;> exact h.abs

def CallOK (P : Program) {β : Type} (call : CallF β) : Prop := ∀ f args s k r, Top s → call f args s k = some r → ∃ v s' L, k v s' = some r ∧ TInfo P f args s v s' L

def NeedR (nd : Need) (s : S) (h : Hp) : Prop :=
  match nd with
  | some l => ∀ nm ∈ l, h nm = s.hp.get nm
  | none => ∀ nm x, s.hp.get nm = some x → h nm = some x

structure OpLoc (P : Program) (n : Nat) (ops : Array Oper) (o : Oper) (s : S) (nd : Need) (s' : S) (L : List Nat) : Prop where
  abs : Abs s s' L
  other : ∀ i, o.dst ≠ some i → s'.sl.get i = s.sl.get i
  dst : ∀ d, o.dst = some d → d < n
  run : ∀ (ro : Option Nat) (ρ : Rho) (w : World) (a : Act) (h : Hp), a.tmps.size = n → (∀ t ∈ tmpsOf o.op.operands.toList ++ guardTmp ops.toList o, RVR ρ (slot n s.sl t) (a.tmps.getD t undef)) →
    HRel ρ h w → Fresh ρ s.nx → NeedR nd s h →
    ∀ (next : Act → World → Prop) (Q : Exit → Act → World → Prop),
      (∀ V w' ρ' h', (∀ d, o.dst = some d → RVR ρ' (slot n s'.sl d) V) → HRel ρ' h' w' → Fresh ρ' s'.nx → Stp ρ h s.nx w ρ' h' s'.nx w' L → (∀ nm, nm ∈ L ∨ s.nx ≤ nm → h' nm = s'.hp.get nm) → next (a.put o.dst V) w') →
      if Region.wanted o (yielded ops a.tmps) then o.wpIn (FR ro) 0 P a w next Q else next (a.put o.dst undef) w

theorem mem_tmpsOf {x : Operand} {t : Tmp} : ∀ {l : List Operand}, x ∈ l → x = .tmp t → t ∈ tmpsOf l
  | y :: l, h, e => by
    subst e
    rcases List.mem_cons.1 h with rfl | h
    · simp [tmpsOf]
    · have := mem_tmpsOf (t := t) h rfl
      cases y <;> simp [tmpsOf, this]

theorem guard_ok {n : Nat} {ops : Array Oper} {sl : T RV} {o : Oper} {g : Bool} (hg : guardOf n ops.toList sl o = some g) {a : Act} (hsz : a.tmps.size = n)
    (h : ∀ t ∈ guardTmp ops.toList o, RVR ρ (slot n sl t) (a.tmps.getD t undef)) : Region.wanted o (yielded ops a.tmps) = g := by
  unfold guardOf at hg
  unfold Region.wanted
  split at hg
  · rename_i h0
    simp only [Option.some.injEq] at hg
    rw [h0, ← hg]
  · rename_i j want h0
    split at hg <;> try (cases hg; done)
    rename_i oj hoj
    split at hg <;> try (cases hg; done)
    rename_i d hd
    rw [h0]
    have ho' : ops[j]? = some oj := by simpa using hoj
    have hmem : d ∈ guardTmp ops.toList o := by simp [guardTmp, h0, hoj, hd]
    have hR := h d hmem
    have hy : yielded ops a.tmps j = (match a.tmps[d]? with | some (.bool b) => some b | _ => none) := by
      simp [yielded, ho', hd]
      rfl
    rw [eval_tmp] at hg
    by_cases hlt : d < n
    · have hget : a.tmps[d]? = some (a.tmps.getD d undef) := by
        rw [Array.getElem?_eq_getElem (show d < a.tmps.size from by rw [hsz]; exact hlt)]
        simp [Array.getD, hsz, hlt]
      split at hg <;> try (cases hg; done)
      · rename_i b hb
        simp only [Option.some.injEq] at hb hg
        rw [hb] at hR
        simp only [RVR, AVR, CR] at hR
        rw [hR] at hget
        simp only [hy, hget, ← hg]
        cases b <;> cases want <;> rfl
      · rename_i hb
        simp only [Option.some.injEq] at hb hg
        rw [hb] at hR
        obtain ⟨vs, h1, h2⟩ := hR
        simp only [AVsR] at h1
        subst h1
        rw [h2] at hget
        simp only [hy, hget, ← hg]
        rfl
    · have hget : a.tmps[d]? = none := Array.getElem?_eq_none (by rw [hsz]; exact Nat.le_of_not_lt hlt)
      have : slot n sl d = und := by simp [slot, hlt]
      rw [this] at hg
      simp only [Option.some.injEq] at hg
      simp only [hy, hget, ← hg]
      rfl

theorem upon_of_OpR {o : Oper} {a : Act} {hp : Hp} {nx : Nat} {r : Res} {next : Act → World → Prop} {Q : Exit → Act → World → Prop} (h : OpR P ρ hp nx w (execOp a.eval o) r)
    {ro : Option Nat} (hd : ∀ c, o.op ≠ .defer c) (hn : ∀ V w' ρ', Out ρ hp nx w r.u r.v V ρ' w' → next (a.put o.dst V) w') : o.wpIn (FR ro) 0 P a w next Q := by
  obtain ⟨V, w', ρ', h1, h2⟩ := h
  refine ⟨fun _ _ => trivial, ?_⟩
  rw [Oper.semAt_eq _ _ _ hd]
  rcases h1 with h1 | ⟨h1, rfl⟩
  · rw [h1]; exact hn _ _ _ h2
  · rw [h1]; exact hn _ _ _ h2

section op
variable {β : Type} {z : Bool} {call : CallF β} (hcall : CallOK P call)
  (hng : ∀ (g : Nat) (fn : Func), P.funcs[g]? = some fn → (fn.name == "runtime.NumGoroutine") = false)
include hcall hng

omit hcall hng in
theorem evl_args {n : Nat} {sl : T RV} {a : Act} : ∀ {l : List Operand} {vs : List RV}, evl (eval n sl) l = some vs → (∀ x ∈ l, EvR ρ (eval n sl) a.eval x) → ArgsR ρ vs (l.map a.eval)
  | [], vs, h, _ => by simp [evl] at h; subst h; rfl
  | x :: l, vs, h, hx => by
    simp only [evl] at h
    split at h <;> try (cases h; done)
    rename_i v vs' h1 h2
    simp only [Option.some.injEq] at h; subst h
    exact ⟨_, _, hx x (by simp) _ h1, evl_args h2 fun y hy => hx y (List.mem_cons_of_mem _ hy), rfl⟩

omit hcall hng in
theorem ArgsR.append : ∀ {l m : List RV} {vs us : List Value}, ArgsR ρ l vs → ArgsR ρ m us → ArgsR ρ (l ++ m) (vs ++ us)
  | [], _, _, _, h, g => by simp only [ArgsR] at h; subst h; simpa using g
  | _ :: _, _, _, _, ⟨v, vs', h1, h2, h3⟩, g => by subst h3; exact ⟨v, _, h1, h2.append g, rfl⟩

omit hcall hng in
theorem caps_args : ∀ {l : List (Nat × Nat)} {vs : List Value}, CapsR ρ l vs → ArgsR ρ (l.map fun (nm, off) => .one (.c (.ptr nm off))) vs
  | [], _, h => h
  | (_, _) :: _, _, ⟨b, c, vs', h1, h2, h3⟩ => ⟨_, vs', ⟨b, c, h1, rfl⟩, caps_args h2, h3⟩

omit hcall in
/-- what the call of an operation does, by what its callee does -/
theorem callee_run {n : Nat} {o : Oper} {c : Call} {fo : Operand} {fid : FuncId} {fsv caps l : List RV} {s s1 : S} {v : RV} {L : List Nat} {a : Act} {ro : Option Nat} (hop : o.op = .call c) (hcal : c.callee = .value fo)
    (hcallee : calleeOf n s.sl fo = some (fid, fsv, caps)) {sx : S} (hi : TInfo P fid (fsv ++ (l ++ caps)) sx v s1 L) (hsub : HRel ρ sx.hp.get w) (hf : Fresh ρ sx.nx)
    (hev : ∀ x ∈ o.op.operands.toList, EvR ρ (eval n s.sl) a.eval x) (hfo : fo ∈ o.op.operands.toList) (hargs : ArgsR ρ l (c.args.toList.map a.eval)) {next : Act → World → Prop} {Q : Exit → Act → World → Prop}
    (hn : ∀ V w' ρ', RVR ρ' v V → HRel ρ' s1.hp.get w' → Fresh ρ' s1.nx → Stp ρ sx.hp.get sx.nx w ρ' s1.hp.get s1.nx w' L → next (a.put o.dst V) w') : o.wpIn (FR ro) 0 P a w next Q := by
  unfold calleeOf at hcallee
  refine ⟨fun _ _ => trivial, ?_⟩
  rw [Oper.semAt_eq _ _ _ (fun c' h' => by rw [hop] at h'; cases h')]
  split at hcallee <;> try (cases hcallee; done)
  · rename_i f' fs' caps' hf'
    split at hcallee <;> try (cases hcallee; done)
    rename_i hYB
    simp only [Option.some.injEq, Prod.mk.injEq] at hcallee
    obtain ⟨rfl, rfl, rfl⟩ := hcallee
    have hYB : f' < YB := by simpa [Nat.blt_eq] using hYB
    have hi := hi.resolve_right (fun h => absurd h.1 (Nat.not_le_of_lt hYB))
    have hi := hi.2
    obtain ⟨fvs, cvs, c0, c1, c2⟩ := hev fo hfo _ hf'
    have hC := hi.run ρ w _ hsub hf (ArgsR.append (caps_args c0) (ArgsR.append hargs (caps_args c1)))
    obtain ⟨fn, f1, f2⟩ := hi.fn
    have hexec : (execOp a.eval o).run P w = .ok (.enter f' (fvs ++ (c.args.toList.map a.eval ++ cvs)).toArray) w := by
      have ha : fvs.toArray ++ (c.args.map a.eval) ++ cvs.toArray = (fvs ++ (c.args.toList.map a.eval ++ cvs)).toArray := by
        apply Array.toList_inj.1; simp
      simp only [execOp, hop, resolve, hcal, Deferred.ofValue, c2, Sem.run_bind, Sem.run_pure, Result.andThen_ok, invoke, callFunc, run_program, f1, hng _ _ f1, f2, Bool.false_eq_true, if_false]
      rw [← ha]
    rw [hexec, Oper.uponIn_enter]
    refine ⟨depth_FR, (calls_FR hC).mono fun e w' ⟨V, ρ', he, g1, g2, g3, g4⟩ => ?_⟩
    subst he
    exact hn V w' ρ' g1 g2 g3 g4
  · rename_i nm hf'
    simp only [Option.some.injEq, Prod.mk.injEq] at hcallee
    obtain ⟨rfl, rfl, rfl⟩ := hcallee
    have hi : YInfo P nm l sx v s1 L := by
      have h := (hi.resolve_left (fun h => absurd h.1 (Nat.not_lt_of_le (Nat.le_add_right YB nm)))).2
      rw [show YB + nm - YB = nm by omega] at h
      simpa using h
    obtain ⟨b, cc, c1, c2⟩ := hev fo hfo _ hf'
    obtain ⟨f, tmps, as, bd, y1, y2⟩ := hi.run ρ w _ b cc hsub hf hargs c1
    have hexec : (execOp a.eval o).run P w = .ok (.round b f tmps as bd) w := by
      have ha : (#[] : Array Value) ++ (c.args.map a.eval) = (c.args.toList.map a.eval).toArray := by
        apply Array.toList_inj.1; simp
      simp only [execOp, hop, resolve, hcal, Deferred.ofValue, c2, Sem.run_bind, Sem.run_pure, Result.andThen_ok, invoke]
      rw [ha, y1]
    rw [hexec, Oper.uponIn_round]
    refine ⟨depth_FR, (round_FR y2).mono fun e w' ⟨V, ρ', he, g1, g2, g3, g4⟩ => ?_⟩
    subst he
    exact hn V w' ρ' g1 g2 g3 g4

theorem opRun_ok {n : Nat} {ops : Array Oper} {o : Oper} {s : S} {k : Need → S → Option β} {r : β} (htop : Top s) (h : opRun P z call n ops.toList o s k = some r) :
    ∃ nd s' L, k nd s' = some r ∧ OpLoc P n ops o s nd s' L := by
  unfold opRun at h
  split at h <;> try (cases h; done)
  rename_i g hg
  split at h
  · -- wanted
    split at h
    · -- a call
      rename_i f args hic
      unfold isCall at hic
      split at hic <;> try (cases hic; done)
      rename_i c hop
      split at hic <;> try (cases hic; done)
      rename_i fo hcal
      simp only [Option.some.injEq, Prod.mk.injEq] at hic
      obtain ⟨rfl, rfl⟩ := hic
      unfold callRun at h
      split at h <;> try (cases h; done)
      rename_i fid fsv caps hcallee
      split at h <;> try (cases h; done)
      rename_i l hl
      obtain ⟨v, s1, L, h1, hi⟩ := hcall _ _ _ _ _ htop h
      obtain ⟨s2, h2, e1, e2, e3, e4, e5⟩ := putDst_ok h1
      refine ⟨none, s2, L, h2, ⟨⟨by rw [e3, hi.abs.lg], by rw [e2]; exact hi.abs.le, fun nm q1 q2 => by rw [e1]; exact hi.abs.keep nm q1 q2, fun nm q => by rw [e1]; exact hi.abs.top nm (by omega), fun nm q => by rw [e2]; exact hi.abs.lt nm q⟩, ?_, e5, ?_⟩⟩
      · intro i hne
        rw [e4, if_neg hne, hi.sl]
      · intro ro ρ w a hh hsz hop' hr hf hnd next Q hn
        have hgd := guard_ok (ρ := ρ) hg hsz fun t ht => hop' t (List.mem_append.2 (.inr ht))
        rw [hgd, if_pos rfl]
        have hev : ∀ x ∈ o.op.operands.toList, EvR ρ (eval n s.sl) a.eval x := fun x hx => eval_ok fun t ht => hop' t (List.mem_append.2 (.inl (mem_tmpsOf hx ht)))
        have hmem : ∀ x ∈ c.args.toList, x ∈ o.op.operands.toList := fun x hx => by
          rw [hop]; simp only [Op.operands, Call.operands, Array.toList_append, List.mem_append]; exact .inr hx
        have hfo : fo ∈ o.op.operands.toList := by rw [hop]; simp [Op.operands, Call.operands, hcal]
        have hargs := evl_args hl fun x hx => hev x (hmem x hx)
        have hsub : HRel ρ s.hp.get w := hr.sub hnd
        have key := callee_run (P := P) hng (ro := ro) hop hcal hcallee hi hsub hf hev hfo hargs (next := next) (Q := Q) (fun V w' ρ' g1 g2 g3 g4 => by
          obtain ⟨h', l1, l2, l3⟩ := g4.lift hr hf hnd g2
          refine hn V w' ρ' h' ?_ l1 (by rw [e2]; exact g3) (by rw [e2]; exact l2) (fun nm hm => by rw [l3 nm hm, e1])
          intro d hd
          have hlt := e5 d hd
          simp only [slot, hlt, if_true, e4, hd, Option.getD_some]
          exact g1)
        exact key
    · -- plain
      unfold plainRun at h
      split at h <;> try (cases h; done)
      rename_i res hres
      rw [sRV_eq] at h
      obtain ⟨s1, h1, u1, u2, u3, u4, u5⟩ := applyU_ok h
      obtain ⟨s2, h2, e1, e2, e3, e4, e5⟩ := putDst_ok h1
      have hkeep : ∀ nm, nm < s.nx → nm ∉ res.u.log → s2.hp.get nm = s.hp.get nm := by
        intro nm q1 q2
        rw [e1, u2]
        cases hu : res.u <;> rw [hu] at q2 <;> simp only [Upd.hp, Upd.log, List.mem_singleton] at q2 ⊢
        · rw [upd_ne _ _ (by omega)]
        · rw [upd_ne _ _ q2]
        · rw [upd_ne _ _ (by omega), upd_ne _ _ q2]
      have htop' : Top s2 := by
        intro nm q
        rw [e2, u3] at q
        rw [e1, u2]
        cases hu : res.u <;> rw [hu] at q <;> simp only [Upd.nx] at q <;> simp only [Upd.hp]
        · exact htop nm q
        · rw [upd_ne _ _ (by omega)]; exact htop nm (by omega)
        · rename_i nm' b
          by_cases e : nm = nm'
          · subst e
            have := u5 nm (by rw [hu]; simp [Upd.log])
            omega
          · rw [upd_ne _ _ e]; exact htop nm (by omega)
        · rename_i nm' b
          rw [upd_ne _ _ (by omega)]
          by_cases e : nm = nm'
          · subst e; rw [upd_same]
          · rw [upd_ne _ _ e]; exact htop nm (by omega)
      refine ⟨some res.need, s2, res.u.log, h2, ⟨⟨by rw [e3, u4], ?_, hkeep, htop', fun nm q => ?_⟩, ?_, e5, ?_⟩⟩
      · rw [e2, u3]; cases res.u <;> simp [Upd.nx]
      · have := u5 nm q
        have : s.nx ≤ s2.nx := by rw [e2, u3]; cases res.u <;> simp [Upd.nx]
        omega
      · intro i hne
        rw [e4, if_neg hne, u1]
      · intro ro ρ w a hh hsz hop' hr hf hnd next Q hn
        have hgd := guard_ok (ρ := ρ) hg hsz fun t ht => hop' t (List.mem_append.2 (.inr ht))
        rw [hgd, if_pos rfl]
        have hev : ∀ x ∈ o.op.operands.toList, EvR ρ (eval n s.sl) a.eval x := fun x hx => eval_ok fun t ht => hop' t (List.mem_append.2 (.inl (mem_tmpsOf hx ht)))
        have hres' := opStep_loc (h' := hh) hres hnd
        refine upon_of_OpR (opStep_ok hr hf hres' hev) (fun c hc => by rw [hc] at hres; cases hres) fun V w' ρ' hO => ?_
        refine hn V w' ρ' _ ?_ hO.rel (by rw [e2, u3]; exact hO.fresh) (by rw [e2, u3]; exact hO.stp) ?_
        · intro d hd
          have hlt := e5 d hd
          simp only [slot, hlt, if_true, e4, hd, Option.getD_some]
          exact hO.val
        · intro nm hm
          rw [e1, u2]
          have hnone : ∀ i, s.nx ≤ i → hh i = s.hp.get i := fun i hi => by rw [htop i hi, hr.none hf hi]
          cases hu : res.u <;> rw [hu] at hm <;> simp only [Upd.log, List.not_mem_nil, List.mem_singleton, false_or] at hm <;> simp only [Upd.hp, upd]
          · exact hnone nm hm
          · split
            · rfl
            · exact hnone nm hm
          · split
            · rfl
            · rename_i hne
              exact hnone nm (hm.resolve_left hne)
          · split
            · rfl
            · split
              · rfl
              · rename_i hne
                exact hnone nm (hm.resolve_left hne)
  · -- passed over
    obtain ⟨s2, h2, e1, e2, e3, e4, e5⟩ := putDst_ok h
    refine ⟨some [], s2, [], h2, ⟨⟨by rw [e3]; rfl, by rw [e2]; exact Nat.le_refl _, fun _ _ _ => by rw [e1], fun nm q => by rw [e1]; exact htop nm (by omega), fun nm q => by cases q⟩, fun i hne => by rw [e4, if_neg hne], e5, ?_⟩⟩
    intro ro ρ w a hh hsz hop' hr hf hnd next Q hn
    have hgd := guard_ok (ρ := ρ) hg hsz fun t ht => hop' t (List.mem_append.2 (.inr ht))
    rw [hgd, if_neg (by simp)]
    refine hn undef w ρ hh ?_ hr (by rw [e2]; exact hf) (by rw [e2]; exact Stp.refl hf) ?_
    · intro d hd
      have hlt := e5 d hd
      simp only [slot, hlt, if_true, e4, hd, Option.getD_some]
      exact und_ok
    · intro nm hm
      have hm : s.nx ≤ nm := by simpa using hm
      rw [e1, htop nm hm, hr.none hf hm]
end op

end Go.Sx

namespace Go.Sx
variable {P : Program}

structure Rel (n : Nat) (ρ : Rho) (s : S) (a : Act) (w : World) : Prop where
  sz : a.tmps.size = n
  df : a.defers = []
  sl : ∀ t, RVR ρ (slot n s.sl t) (a.tmps.getD t undef)
  hp : HRel ρ s.hp.get w
  fresh : Fresh ρ s.nx

/-- the deferred calls of an activation: blocks that ranges over functions have laid, untouched -/
abbrev mk1 (r : Nat) : Deferred := { target := .collected r, args := #[] }
def Marks (ds : List Deferred) (w : World) : Prop := ∃ rs : List Nat, ds = rs.map mk1 ∧ rs.Nodup ∧ ∀ r ∈ rs, w.heap[r]? = some (.deferred (some []))
theorem Marks.nil {w : World} : Marks [] w := ⟨[], rfl, List.Pairwise.nil, fun _ h => by cases h⟩
theorem BlkR.noDef {ρ : Rho} {c : Nat} {x : Blk} {d : Option (List Deferred)} (h : BlkR ρ c x (.deferred d)) : False := by
  cases x with
  | row => obtain ⟨_, _, _, h, _⟩ := h; cases h
  | map => obtain ⟨_, _, h, _⟩ := h; cases h
  | win => obtain ⟨_, _, _, h, _⟩ := h; cases h
  | recs => obtain ⟨_, _, _, h, _⟩ := h; cases h
  | mapI => obtain ⟨_, _, h, _⟩ := h; cases h
  | mapR => obtain ⟨_, _, h, _⟩ := h; cases h
  | loop => obtain ⟨_, h, _⟩ := h; cases h
  | iter => cases h
  | mapP => obtain ⟨_, _, _, h, _⟩ := h; cases h
  | mapV => obtain ⟨_, _, h, _⟩ := h; cases h
  | mapS => obtain ⟨_, _, h, _⟩ := h; cases h
theorem Marks.stp {ρ ρ' : Rho} {hp hp' : Hp} {nx nx' : Nat} {w w' : World} {L : List Nat} {ds : List Deferred} (h : Marks ds w) (hr : HRel ρ hp w) (st : Stp ρ hp nx w ρ' hp' nx' w' L) : Marks ds w' := by
  obtain ⟨rs, h1, h2, h3⟩ := h
  refine ⟨rs, h1, h2, fun r hm => ?_⟩
  have g1 := h3 r hm
  have hlt := lt_of_get g1
  rw [st.frame r hlt fun nm c h4 h5 h6 => ?_]
  · exact g1
  · obtain ⟨x, hx, _⟩ := st.own nm h4 h5
    obtain ⟨b, c', o, e1, e2, e3⟩ := hr.ok nm x hx
    rw [h6] at e1
    simp only [Option.some.injEq, Prod.mk.injEq] at e1
    obtain ⟨rfl, rfl⟩ := e1
    rw [g1] at e2
    cases e2
    exact e3.noDef
/-- marks are laid ahead of what was (g: if any may be) -/
def Grown (g : Bool) (w0 : World) (ds ds' : List Deferred) : Prop := ∃ rs : List Nat, ds' = rs.map mk1 ++ ds ∧ (∀ r ∈ rs, w0.heap.size ≤ r) ∧ (g = false → rs = [])
theorem Grown.refl {g : Bool} {w : World} {ds : List Deferred} : Grown g w ds ds := ⟨[], rfl, (fun _ h => by cases h), fun _ => rfl⟩
theorem Grown.trans {g : Bool} {w w1 : World} {ds ds1 ds2 : List Deferred} (h : Grown g w ds ds1) (h1 : Grown g w1 ds1 ds2) (hs : w.heap.size ≤ w1.heap.size) : Grown g w ds ds2 := by
  obtain ⟨rs, a1, a2, a3⟩ := h
  obtain ⟨qs, b1, b2, b3⟩ := h1
  refine ⟨qs ++ rs, by rw [b1, a1]; simp, fun r hr => ?_, fun e => by rw [a3 e, b3 e]; rfl⟩
  rcases List.mem_append.1 hr with hr | hr
  · exact Nat.le_trans hs (b2 r hr)
  · exact a2 r hr
theorem Grown.eq {w : World} {ds ds' : List Deferred} (h : Grown false w ds ds') : ds' = ds := by
  obtain ⟨rs, a1, _, a3⟩ := h
  rw [a1, a3 rfl]; rfl
structure RelM (n : Nat) (ρ : Rho) (s : S) (a : Act) (w : World) : Prop where
  sz : a.tmps.size = n
  df : Marks a.defers w
  sl : ∀ t, RVR ρ (slot n s.sl t) (a.tmps.getD t undef)
  hp : HRel ρ s.hp.get w
  fresh : Fresh ρ s.nx
theorem Rel.m {n : Nat} {ρ : Rho} {s : S} {a : Act} {w : World} (R : Rel n ρ s a w) : RelM n ρ s a w := ⟨R.sz, by rw [R.df]; exact Marks.nil, R.sl, R.hp, R.fresh⟩
theorem RelM.rel {n : Nat} {ρ : Rho} {s : S} {a : Act} {w : World} (R : RelM n ρ s a w) (h : a.defers = []) : Rel n ρ s a w := ⟨R.sz, h, R.sl, R.hp, R.fresh⟩

abbrev StpS (ρ : Rho) (s : S) (w : World) (ρ' : Rho) (s' : S) (w' : World) (L : List Nat) : Prop := Stp ρ s.hp.get s.nx w ρ' s'.hp.get s'.nx w' L

theorem put_size (a : Act) (d : Option Tmp) (v : Value) : (a.put d v).tmps.size = a.tmps.size := by cases d <;> simp [Act.put]
theorem put_defers (a : Act) (d : Option Tmp) (v : Value) : (a.put d v).defers = a.defers := by cases d <;> rfl
theorem put_getD (a : Act) (d : Option Tmp) (v : Value) (t : Nat) : (a.put d v).tmps.getD t undef = if d = some t ∧ t < a.tmps.size then v else a.tmps.getD t undef := by
  cases d with
  | none => simp [Act.put]
  | some d =>
    simp only [Act.put, Array.getD_eq_getD_getElem?, Array.getElem?_setIfInBounds, Option.some.injEq]
    by_cases h : d = t
    · subst h
      by_cases h2 : d < a.tmps.size
      · simp [h2]
      · simp [h2]
    · simp [h]

theorem OpLoc.seq {n : Nat} {ops : Array Oper} {o : Oper} {s s' : S} {nd : Need} {L : List Nat} (h : OpLoc P n ops o s nd s' L) (ro : Option Nat) {ρ : Rho} {a : Act} {w : World} (R : RelM n ρ s a w)
    {next : Act → World → Prop} {Q : Exit → Act → World → Prop} (hn : ∀ V w' ρ', RelM n ρ' s' (a.put o.dst V) w' → StpS ρ s w ρ' s' w' L → next (a.put o.dst V) w') :
    if Region.wanted o (yielded ops a.tmps) then o.wpIn (FR ro) 0 P a w next Q else next (a.put o.dst undef) w := by
  refine h.run ro ρ w a s.hp.get R.sz (fun t _ => R.sl t) R.hp R.fresh (by cases nd <;> simp [NeedR]) next Q fun V w' ρ' h' hv hr hf st hh => ?_
  have e : h' = s'.hp.get := by
    funext nm
    by_cases hc : nm ∈ L ∨ s.nx ≤ nm
    · exact hh nm hc
    · rw [not_or] at hc
      rw [st.keep nm (by omega) hc.1, h.abs.keep nm (by omega) hc.1]
  subst e
  refine hn V w' ρ' ⟨by rw [put_size]; exact R.sz, by rw [put_defers]; exact R.df.stp R.hp st, fun t => ?_, hr, hf⟩ st
  rw [put_getD]
  by_cases hd : o.dst = some t
  · have hlt := h.dst t hd
    rw [if_pos ⟨hd, by rw [R.sz]; exact hlt⟩]
    exact hv t hd
  · rw [if_neg (fun hc => hd hc.1)]
    have : slot n s'.sl t = slot n s.sl t := by unfold slot; rw [h.other t hd]
    rw [this]
    exact (R.sl t).mono (st.sub R.fresh)

def SeqOK {β : Type} (n : Nat) (s : S) (k : S → Option β) (r : β) (wp : Option Nat → (Exit → Act → World → Prop) → Act → World → Prop) : Prop :=
  ∃ s' L, k s' = some r ∧ Abs s s' L ∧ ∀ (ro : Option Nat) (ρ : Rho) (a : Act) (w : World), RelM n ρ s a w → ∀ Q : Exit → Act → World → Prop, (∀ a' w' ρ', RelM n ρ' s' a' w' → StpS ρ s w ρ' s' w' L → a'.defers = a.defers → Q .normal a' w') → wp ro Q a w

section
variable {β : Type} {z : Bool} {call : CallF β} (hcall : CallOK P call)
  (hng : ∀ (g : Nat) (fn : Func), P.funcs[g]? = some fn → (fn.name == "runtime.NumGoroutine") = false)
include hcall hng

theorem opsRun_ok {n : Nat} {ops : Array Oper} {r : β} : ∀ {rest : List Oper} {s : S} {k : S → Option β}, Top s → opsRun P z call n ops.toList rest s k = some r →
    SeqOK n s k r (fun ro Q => wpListIn (FR ro) 0 P ops Q rest)
  | [], s, k, ht, h => ⟨s, [], h, Abs.refl ht, fun ro ρ a w R Q hQ => hQ a w ρ R (Stp.refl R.fresh) rfl⟩
  | o :: rest, s, k, ht, h => by
    simp only [opsRun] at h
    obtain ⟨nd, s1, L1, h1, hl⟩ := opRun_ok hcall hng ht h
    obtain ⟨s2, L2, h2, ab, hw⟩ := opsRun_ok hl.abs.top h1
    refine ⟨s2, L2 ++ L1, h2, hl.abs.trans ab, fun ro ρ a w R Q hQ => ?_⟩
    have := hl.seq ro (next := wpListIn (FR ro) 0 P ops Q rest) (Q := Q) R fun V w' ρ' R' st => hw ro ρ' _ w' R' Q fun a' w'' ρ'' R'' st' hd => hQ a' w'' ρ'' R'' (st.trans st') (hd.trans (put_defers _ _ _))
    show wpListIn (FR ro) 0 P ops Q (o :: rest) a w
    unfold wpListIn
    split
    · rename_i hc
      rw [if_pos hc] at this
      exact this
    · rename_i hc
      rw [if_neg hc] at this
      exact ⟨fun _ _ => trivial, this⟩
end

/-! ## Code -/
def XR : X → Exit → Prop
  | .normal, .normal => True
  | .exit i, .exit j => i = j
  | .ret, .ret => True
  | _, _ => False

def WpX (P : Program) (m : Nat) (c : Code) (Q : Exit → Act → World → Prop) (a : Act) (w : World) : Prop :=
  match c with
  | .loop c => Code.rounds P c Q m a w
  | c => c.wp P Q a w

def PostX (n : Nat) (ρ : Rho) (s : S) (w : World) (x : X) (s' : S) (L : List Nat) : Exit → Act → World → Prop := fun e a' w' => XR x e ∧ ∃ ρ', Rel n ρ' s' a' w' ∧ StpS ρ s w ρ' s' w' L

def ExecOK (P : Program) {β : Type} (ex : ExecF β) : Prop := ∀ n c s k r, Top s → ex n c s k = some r → ∃ x s' L m, k x s' = some r ∧ Abs s s' L ∧
  ∀ (ρ : Rho) (a : Act) (w : World), Rel n ρ s a w → WpX P m c (PostX n ρ s w x s' L) a w

/-! .. in a round or not, with marks -/
def WpXM (ro : Option Nat) (P : Program) (m : Nat) (c : Code) (Q : Exit → Act → World → Prop) (a : Act) (w : World) : Prop :=
  match c with
  | .loop c => Code.roundsIn (FR ro) 0 P c Q m a w
  | c => c.wpIn (FR ro) 0 P Q a w
theorem WpXM.wp {ro : Option Nat} {m : Nat} {c : Code} {Q : Exit → Act → World → Prop} {a : Act} {w : World} (h : WpXM ro P m c Q a w) : c.wpIn (FR ro) 0 P Q a w := by
  unfold WpXM at h
  split at h
  · exact wpIn_loop_rounds m h
  · exact h
def PostM (g : Bool) (n : Nat) (ρ : Rho) (s : S) (w : World) (ds : List Deferred) (x : X) (s' : S) (L : List Nat) : Exit → Act → World → Prop :=
  fun e a' w' => XR x e ∧ ∃ ρ', RelM n ρ' s' a' w' ∧ StpS ρ s w ρ' s' w' L ∧ Grown g w ds a'.defers
def ExecM (P : Program) (z : Bool) {β : Type} (ex : ExecF β) : Prop := ∀ n c s k r, Top s → ex n c s k = some r → ∃ x s' L m, k x s' = some r ∧ Abs s s' L ∧
  ∀ (ro : Option Nat), (ro = none ∨ noRF c = true) → ∀ (ρ : Rho) (a : Act) (w : World), RelM n ρ s a w → WpXM ro P m c (PostM (z && ro.isNone) n ρ s w a.defers x s' L) a w

def SumOK (P : Program) (Sg : FuncId → Option Sum) : Prop := ∀ g sm, Sg g = some sm → ∀ args s v hp nx lg, Top s → sm args s.hp s.nx = some (v, hp, nx, lg) →
  CallInfo P g args s v { s with hp := hp, nx := nx, lg := lg ++ s.lg } lg

theorem setArgs_ok {β : Type} {n : Nat} : ∀ {args : List RV} {i : Nat} {sl : T RV} {k : T RV → Option β} {r : β}, setArgs n args i sl k = some r →
    ∃ sl', k sl' = some r ∧ (∀ j, sl'.get j = if i ≤ j ∧ j < i + args.length then args[j - i]? else sl.get j) ∧ (args = [] ∨ i + args.length ≤ n)
  | [], i, sl, k, r, h => ⟨sl, h, fun j => by rw [if_neg (by simp)], .inl rfl⟩
  | v :: vs, i, sl, k, r, h => by
    simp only [setArgs] at h
    split at h <;> try (cases h; done)
    rename_i hlt
    obtain ⟨t, h1, h2⟩ := T.set_ok _ _ _ _ _ _ h
    obtain ⟨sl', h3, h4, h5⟩ := setArgs_ok h1
    refine ⟨sl', h3, fun j => ?_, .inr ?_⟩
    · rw [h4, h2]
      simp only [List.length_cons]
      by_cases e : j = i
      · subst e
        rw [if_neg (by omega), if_pos rfl, if_pos (by omega)]
        simp
      · rw [if_neg e]
        by_cases hc : i + 1 ≤ j ∧ j < i + 1 + vs.length
        · rw [if_pos hc, if_pos (by omega), show j - i = (j - (i + 1)) + 1 by omega]
          rfl
        · rw [if_neg hc, if_neg (by omega)]
    · rcases h5 with rfl | h5
      · simp; omega
      · simp; omega

theorem ArgsR.get {ρ : Rho} : ∀ {l : List RV} {vs : List Value}, ArgsR ρ l vs → vs.length = l.length ∧ ∀ (i : Nat) (x : RV), l[i]? = some x → ∃ V, vs[i]? = some V ∧ RVR ρ x V
  | [], _, h => by simp only [ArgsR] at h; subst h; simp
  | _ :: _, _, ⟨v, vs', h1, h2, h3⟩ => by
    subst h3
    obtain ⟨e1, e2⟩ := h2.get
    refine ⟨by simp [e1], fun i x hx => ?_⟩
    cases i with
    | zero => simp at hx; subst hx; exact ⟨v, rfl, h1⟩
    | succ i => simp at hx; simpa using e2 i x hx

def resVar (tmps : Array Value) : ResultVar → Sem Value
  | .tmp t => pure (tmps.getD t undef)
  | .cell a t => do loadVar t (← asAddr (tmps.getD a undef))

theorem results_eq (fn : Func) (tmps : Array Value) : results fn tmps = (do
    let vs ← fn.results.mapM (resVar tmps)
    pure (if h : vs.size = 1 then vs[0] else .tuple vs)) := by
  unfold results
  congr 1

theorem resOf_ok {n : Nat} {s : S} {ρ : Rho} {a : Act} {w : World} (R : RelM n ρ s a w) : ∀ {rs : List ResultVar} {l : List AV}, resOf P n s rs = some l →
    ∃ vs, AVsR ρ l vs ∧ vs.length = l.length ∧ (rs.mapM (resVar a.tmps)).run P w = Result.ok vs w
  | [], l, h => by simp [resOf] at h; subst h; exact ⟨[], rfl, rfl, rfl⟩
  | rv :: rs, l, h => by
    simp only [resOf] at h
    split at h <;> try (cases h; done)
    rename_i v l' h1 h2
    simp only [Option.some.injEq] at h; subst h
    obtain ⟨vs, g1, g2, g3⟩ := resOf_ok R h2
    have key : ∃ V, AVR ρ v V ∧ (resVar a.tmps rv).run P w = Result.ok V w := by
      cases rv with
      | tmp t =>
        simp only [eval_tmp] at h1
        split at h1 <;> try (cases h1; done)
        rename_i v' hv'
        simp only [Option.some.injEq] at h1 hv'; subst h1
        have := R.sl t
        rw [hv'] at this
        exact ⟨_, this, rfl⟩
      | cell p t =>
        simp only [eval_tmp] at h1
        split at h1 <;> try (cases h1; done)
        rename_i nm off k hs hk
        simp only [Option.some.injEq] at hs
        split at h1 <;> try (cases h1; done)
        rename_i t' ro opn b hrow
        have := R.sl p
        rw [hs] at this
        obtain ⟨bl, c, e1, e2⟩ := this
        obtain ⟨_, bl', c', vs', tail, fr, q1, q2, q3, _, _⟩ := row_ok R.hp hrow
        rw [e1] at q1
        simp only [Option.some.injEq, Prod.mk.injEq] at q1
        obtain ⟨rfl, rfl⟩ := q1
        obtain ⟨V, p1, p2⟩ := run_loadVar' (P := P) q2 hk h1 rfl q3
        refine ⟨V, p1, ?_⟩
        simp only [resVar, e2, asAddr, Sem.run_bind, Sem.run_pure, Result.andThen_ok, p2]
    obtain ⟨V, k1, k2⟩ := key
    refine ⟨V :: vs, ⟨V, vs, k1, g1, rfl⟩, by simp [g2], ?_⟩
    simp only [List.mapM_cons, Sem.run_bind, k2, Result.andThen_ok, g3, Sem.run_pure]

theorem results_okM {n : Nat} {s : S} {ρ : Rho} {a : Act} {w : World} (R : RelM n ρ s a w) {fn : Func} {l : List AV} (h : resOf P n s fn.results.toList = some l) :
    ∃ V, RVR ρ (resRV l) V ∧ (results fn a.tmps).run P w = .ok V w := by
  obtain ⟨vs, g1, g2, g3⟩ := resOf_ok R h
  have hm : (results fn a.tmps).run P w = .ok (if h : vs.toArray.size = 1 then vs.toArray[0] else .tuple vs.toArray) w := by
    rw [results_eq, Array.mapM_eq_mapM_toList]
    simp only [Sem.run_bind, Sem.run_map, g3, Result.andThen_ok, Sem.run_pure]
  rw [hm]
  match l, vs, g1, g2 with
  | [v], [V], g1, _ =>
    obtain ⟨V', _, k1, k2, k3⟩ := g1
    simp only [AVsR] at k2
    subst k2
    simp only [List.cons.injEq, and_true] at k3
    subst k3
    exact ⟨V, k1, by simp⟩
  | [], [], _, _ => exact ⟨_, ⟨[], rfl, rfl⟩, by simp⟩
  | x :: y :: l, u :: v :: vs, g1, _ =>
    refine ⟨_, ⟨_, g1, rfl⟩, ?_⟩
    simp

theorem results_ok {n : Nat} {s : S} {ρ : Rho} {a : Act} {w : World} (R : Rel n ρ s a w) {fn : Func} {l : List AV} (h : resOf P n s fn.results.toList = some l) :
    ∃ V, RVR ρ (resRV l) V ∧ (results fn a.tmps).run P w = .ok V w := results_okM R.m h

end Go.Sx

namespace Go.Sx
variable {P : Program}
/-! ## Rounds of a range over a function -/
theorem putObj_wr {w : World} {b : Nat} {x o : Obj} (h : w.heap[b]? = some x) : WrW w b o (w.putObj b o) where
  size := by simp [World.putObj]
  at_ := by
    have := lt_of_get h
    simp [World.putObj, this]
  other := fun i hi => by simp [World.putObj, Ne.symm hi]
  os := rfl
  tape := rfl
  out := rfl
theorem Abs.setN {s : S} {nm : Nat} {y : Blk} {hp' : T Blk} (ht : Top s) (hn : nm < s.nx) (q : ∀ i, hp'.get i = if i = nm then some y else s.hp.get i) (sl : T RV) : Abs s ⟨sl, hp', s.nx, nm :: s.lg⟩ [nm] where
  lg := rfl
  le := Nat.le_refl _
  keep := fun i _ h => by show hp'.get i = _; rw [q, if_neg (by simpa using h)]
  top := fun i h => by have h' : s.nx ≤ i := h; show hp'.get i = none; rw [q, if_neg (by omega)]; exact ht i h'
  lt := fun i h => by rw [List.mem_singleton.1 h]; exact hn
theorem Top.ltN {s : S} (ht : Top s) {nm : Nat} {x : Blk} (h : s.hp.get nm = some x) : nm < s.nx := by
  rcases Nat.lt_or_ge nm s.nx with h' | h'
  · exact h'
  · rw [ht nm h'] at h; cases h
theorem ArgsR.set {ρ : Rho} : ∀ {l : List RV} {vs : List Value} {p : Nat} {v : RV} {V : Value}, ArgsR ρ l vs → RVR ρ v V → ArgsR ρ (l.set p v) (vs.set p V)
  | [], vs, p, v, V, h, _ => by simp only [ArgsR] at h; subst h; simp [ArgsR]
  | x :: l, _, 0, v, V, ⟨X, vs', h1, h2, h3⟩, hv => by subst h3; exact ⟨V, vs', hv, h2, rfl⟩
  | x :: l, _, p + 1, v, V, ⟨X, vs', h1, h2, h3⟩, hv => by subst h3; exact ⟨X, _, h1, h2.set hv, rfl⟩
theorem setPs_ok {ρ : Rho} : ∀ {ps : List Nat} {args sl sl1 : List RV} {vs tmps : List Value}, setPs ps args sl = some sl1 → ArgsR ρ args vs → ArgsR ρ sl tmps →
    vs.length = ps.length ∧ ArgsR ρ sl1 ((ps.zip vs).foldl (fun t p => t.set p.1 p.2) tmps)
  | [], [], sl, sl1, vs, tmps, h, ha, hs => by
    simp only [setPs, Option.some.injEq] at h
    subst h
    simp only [ArgsR] at ha
    subst ha
    exact ⟨rfl, hs⟩
  | p :: ps, v :: args, sl, sl1, _, tmps, h, ⟨V, vs', h1, h2, h3⟩, hs => by
    subst h3
    simp only [setPs] at h
    obtain ⟨e1, e2⟩ := setPs_ok h h2 (hs.set (p := p) h1)
    exact ⟨by simp [e1], by simpa using e2⟩
  | [], _ :: _, _, _, _, _, h, _, _ => by cases h
  | _ :: _, [], _, _, _, _, h, _, _ => by cases h
theorem foldl_set (ps : List Nat) : ∀ (vs : List Value) (tmps : Array Value), ((ps.zip vs).foldl (fun (t : Array Value) p => t.setIfInBounds p.1 p.2) tmps).toList = (ps.zip vs).foldl (fun (t : List Value) p => t.set p.1 p.2) tmps.toList := by
  induction ps with
  | nil => intro vs tmps; rfl
  | cons p ps ih =>
    intro vs tmps
    cases vs with
    | nil => rfl
    | cons v vs => simp only [List.zip_cons_cons, List.foldl_cons]; rw [ih]; simp
/-- the frame of a round stands as its slots say -/
theorem slots_rel {ρ : Rho} {sl1 : List RV} {tmps : Array Value} {t : T RV} {s : S} {w : World} (ha : ArgsR ρ sl1 tmps.toList) (hr : HRel ρ s.hp.get w) (hf : Fresh ρ s.nx)
    (h2 : ∀ j, t.get j = if 0 ≤ j ∧ j < 0 + sl1.length then sl1[j - 0]? else (T.nil : T RV).get j) : RelM sl1.length ρ ⟨t, s.hp, s.nx, s.lg⟩ { tmps := tmps, defers := [] } w := by
  obtain ⟨len, hget⟩ := ha.get
  have hl : tmps.size = sl1.length := by simpa using len
  refine ⟨hl, Marks.nil, fun j => ?_, hr, hf⟩
  unfold slot
  simp only
  rw [h2]
  simp only [Nat.zero_le, true_and, Nat.zero_add, Nat.sub_zero, T.get_nil]
  by_cases hlt : j < sl1.length
  · rw [if_pos hlt, if_pos hlt]
    obtain ⟨V, e1, e2⟩ := hget j sl1[j] (List.getElem?_eq_getElem hlt)
    rw [List.getElem?_eq_getElem hlt]
    have : tmps.getD j undef = V := by
      rw [Array.getD_eq_getD_getElem?, ← Array.getElem?_toList, e1]; rfl
    rw [this]
    exact e2
  · rw [if_neg hlt]
    have : tmps.getD j undef = undef := by
      rw [Array.getD_eq_getD_getElem?, Array.getElem?_eq_none (by omega)]; rfl
    rw [this]
    exact und_ok

theorem yieldRun_ok {β : Type} {z : Bool} {ex : ExecF β} (hex : ExecM P z ex) {nm : Nat} {args : List RV} {s : S} {k : RV → S → Option β} {r : β} (ht : Top s) (h : yieldRun ex nm args s k = some r) :
    ∃ v s' L, k v s' = some r ∧ YInfo P nm args s v s' L := by
  unfold yieldRun at h
  split at h <;> try (cases h; done)
  rename_i sl ps as bd hloop
  split at h <;> try (cases h; done)
  rename_i hno
  rw [Bool.and_eq_true] at hno
  split at h <;> try (cases h; done)
  rename_i sl1 hps
  obtain ⟨t, h1, ht2, _⟩ := setArgs_ok h
  obtain ⟨x, s1, L1, m1, h2, ab1, hw1⟩ := hex _ _ _ _ _ (show Top ⟨t, s.hp, s.nx, s.lg⟩ from ht) h1
  have ab1' : Abs s s1 L1 := ⟨ab1.lg, ab1.le, ab1.keep, ab1.top, ab1.lt⟩
  unfold yieldK1 at h2
  split at h2 <;> try (cases h2; done)
  split at h2 <;> try (cases h2; done)
  rename_i sl' ps' as' bd' hloop1
  obtain ⟨hp1, h3, q1⟩ := T.set_ok _ _ _ _ _ _ h2
  have abS1 := Abs.setN ab1.top (ab1.top.ltN hloop1) q1 s1.sl
  obtain ⟨x2, s2, L2, m2, h4, ab2, hw2⟩ := hex _ _ _ _ _ abS1.top h3
  unfold yieldK2 at h4
  split at h4 <;> try (cases h4; done)
  rename_i sl2 ps2 as2 bd2 hloop2
  have fin : ∃ (st : LSt) (bb : Bool) (hp3 : T Blk), (∀ i, hp3.get i = if i = nm then some (.loop st sl2 ps2 as2 bd2) else s2.hp.get i) ∧ k (.one (.c (.bool bb))) ⟨s.sl, hp3, s2.nx, nm :: s2.lg⟩ = some r ∧
      (∀ (e : Exit), XR x2 e → ∃ jump : Option Code, (match e with | .normal => jump = none | .ret => jump = some .ret | .exit id => jump = some (.exit id) | _ => False) ∧ bb = jump.isNone ∧ LStR st (if jump.isNone then .ready else .done) jump) := by
    cases x2 with
    | normal =>
      obtain ⟨hp3, h5, q3⟩ := T.set_ok _ _ _ _ _ _ h4
      refine ⟨_, _, hp3, q3, h5, fun e hx => ?_⟩
      cases e <;> simp only [XR] at hx
      exact ⟨none, rfl, rfl, rfl, rfl⟩
    | ret =>
      obtain ⟨hp3, h5, q3⟩ := T.set_ok _ _ _ _ _ _ h4
      refine ⟨_, _, hp3, q3, h5, fun e hx => ?_⟩
      cases e <;> simp only [XR] at hx
      exact ⟨some .ret, rfl, rfl, rfl, rfl⟩
    | exit id =>
      obtain ⟨hp3, h5, q3⟩ := T.set_ok _ _ _ _ _ _ h4
      refine ⟨_, _, hp3, q3, h5, fun e hx => ?_⟩
      cases e <;> simp only [XR] at hx
      subst hx
      exact ⟨some (.exit id), rfl, rfl, rfl, rfl⟩
  obtain ⟨st, bb, hp3, q3, h5, hj⟩ := fin
  have abS2 := Abs.setN ab2.top (ab2.top.ltN hloop2) q3 s.sl
  have abF := ((ab1'.trans abS1).trans ab2).trans abS2
  refine ⟨_, _, _, h5, ⟨rfl, abF, ?_⟩⟩
  intro ρ w vs b c hr hf ha hb
  have hlt : nm < s.nx := ht.ltN hloop
  obtain ⟨b', c', o, e1, e2, r0, rfl, g1, g2, g3, g4, g5⟩ := hr.ok _ _ hloop
  rw [hb] at e1
  simp only [Option.some.injEq, Prod.mk.injEq] at e1
  obtain ⟨rfl, rfl⟩ := e1
  obtain ⟨p1, p2⟩ := setPs_ok hps ha g1
  rw [← g2] at p1 p2
  refine ⟨r0.fn, _, r0.assign, r0.body, run_yield e2 (by simpa using p1), ?_⟩
  have htm : ArgsR ρ sl1 ((r0.params.zip vs.toArray).foldl (fun tmps (t, a) => tmps.setIfInBounds t a) r0.tmps).toList := by
    have := foldl_set r0.params.toList vs r0.tmps
    rw [← this] at p2
    have e : (r0.params.zip vs.toArray) = (r0.params.toList.zip vs).toArray := by
      apply Array.toList_inj.1; simp
    rw [e, ← Array.foldl_toList]
    exact p2
  have R0 := slots_rel (s := s) htm hr hf ht2
  refine roundIn_of_wpIn trivial ?_
  rw [g3, g4]
  refine wpIn_mono (hw1 (some b) (.inr hno.1) ρ _ w R0).wp fun e a1 w1 hq => ?_
  obtain ⟨hx, ρ1, R1, st1, _⟩ := hq
  cases e <;> simp only [XR] at hx
  obtain ⟨b1, c1, o1, f1, f2, r1, rfl, k1, k2, k3, k4, k5⟩ := R1.hp.ok _ _ hloop1
  rw [st1.rho nm hlt, hb] at f1
  simp only [Option.some.injEq, Prod.mk.injEq] at f1
  obtain ⟨rfl, rfl⟩ := f1
  have hb1 : ρ1 nm = some (b, c) := (st1.rho nm hlt).trans hb
  refine ⟨_, run_beginRound f2 k5.1, ?_⟩
  have W1 := putObj_wr (o := .loop { r1 with state := .busy }) f2
  have O1 := HRel.wrOut (v := und) (V := undef) R1.hp R1.fresh hloop1 rfl hb1 (y := .loop .busy sl' ps' as' bd') ⟨{ r1 with state := .busy }, rfl, k1, k2, k3, k4, rfl⟩ W1 und_ok
  have eh1 : hp1.get = Upd.hp (.wr nm (.loop .busy sl' ps' as' bd')) s1.hp.get s1.nx := funext fun i => by rw [q1]; rfl
  have R1' : RelM sl1.length ρ1 ⟨s1.sl, hp1, s1.nx, nm :: s1.lg⟩ a1 (w1.putObj b (.loop { r1 with state := .busy })) :=
    ⟨R1.sz, R1.df.stp R1.hp O1.stp, R1.sl, by show HRel ρ1 hp1.get _; rw [eh1]; exact O1.rel, R1.fresh⟩
  have stp1 : Stp ρ1 s1.hp.get s1.nx w1 ρ1 hp1.get s1.nx (w1.putObj b (.loop { r1 with state := .busy })) [nm] := by rw [eh1]; exact O1.stp
  refine wpIn_mono (hw2 (some b) (.inr hno.2) ρ1 a1 _ R1').wp fun e a2 w2 hq => ?_
  obtain ⟨hx2, ρ2, R2, st2, _⟩ := hq
  obtain ⟨b2, c2, o2, f3, f4, r2, rfl, m1', m2', m3', m4', m5'⟩ := R2.hp.ok _ _ hloop2
  have hlt1 : nm < s1.nx := Nat.lt_of_lt_of_le hlt ab1.le
  rw [st2.rho nm hlt1, hb1] at f3
  simp only [Option.some.injEq, Prod.mk.injEq] at f3
  obtain ⟨rfl, rfl⟩ := f3
  have hb2 : ρ2 nm = some (b, c) := (st2.rho nm hlt1).trans hb1
  obtain ⟨jump, j1, j2, j3⟩ := hj e hx2
  have W2 := putObj_wr (o := .loop { r2 with state := if jump.isNone then .ready else .done, pending := jump }) f4
  have O2 := HRel.wrOut (v := .one (.c (.bool bb))) (V := .bool jump.isNone) R2.hp R2.fresh hloop2 rfl hb2 (y := .loop st sl2 ps2 as2 bd2) ⟨{ r2 with state := if jump.isNone then .ready else .done, pending := jump }, rfl, m1', m2', m3', m4', j3⟩ W2 (by rw [j2]; rfl)
  have eh3 : hp3.get = Upd.hp (.wr nm (.loop st sl2 ps2 as2 bd2)) s2.hp.get s2.nx := funext fun i => by rw [q3]; rfl
  have res : ∃ v w', (Instr.endRound b jump).run P w2 = .ok v w' ∧ ∃ V ρ', Ending.returned v = .returned V ∧ RVR ρ' (.one (.c (.bool bb))) V ∧ HRel ρ' hp3.get w' ∧ Fresh ρ' s2.nx ∧ Stp ρ s.hp.get s.nx w ρ' hp3.get s2.nx w' _ :=
    ⟨_, _, run_endRound jump f4, _, ρ2, rfl, O2.val, by rw [eh3]; exact O2.rel, R2.fresh, ((st1.trans stp1).trans st2).trans (by rw [eh3]; exact O2.stp)⟩
  cases e <;> simp only at j1
  all_goals first
    | (subst j1; exact res)
    | exact j1.elim

/-! ## Leaving, where ranges over functions have left marks -/
theorem HRel.same {ρ : Rho} {hp : Hp} {w w' : World} (hr : HRel ρ hp w) (h : ∀ nm x b c, hp nm = some x → ρ nm = some (b, c) → w'.heap[b]? = w.heap[b]?) (hz : ∀ b l, ρ.fz b = some l → w'.heap[b]? = w.heap[b]?) : HRel ρ hp w' where
  ok := fun nm x hx => by
    obtain ⟨b, c, o, h1, h2, h3⟩ := hr.ok nm x hx
    exact ⟨b, c, o, h1, (h nm x b c hx h1).trans h2, h3⟩
  inj := hr.inj
  fz := hr.fz.of (fun _ _ h => h) hz fun nm x b c hx hw he => .inl ⟨nm, x, c, hx, hw, he⟩
structure SameBut (rs : List Nat) (w w' : World) : Prop where
  size : w'.heap.size = w.heap.size
  other : ∀ b, b ∉ rs → w'.heap[b]? = w.heap[b]?
  os : w'.os = w.os
  tape : w'.tape = w.tape
  out : w'.output = w.output
theorem leaves_marks {fn : Func} {tmps : Array Value} {R : Ending → World → Prop} : ∀ (rs : List Nat) (w : World), rs.Nodup → (∀ r ∈ rs, w.heap[r]? = some (.deferred (some []))) →
    (∀ w', SameBut rs w w' → ∃ v, (results fn tmps).run P w' = .ok v w' ∧ R (.returned v) w') → LeavesInM (FR none) 0 P fn tmps R (rs.map mk1) .returning w
  | [], w, _, _, h => h w ⟨rfl, fun _ _ => rfl, rfl, rfl, rfl⟩
  | r :: rs, w, hn, hm, h => by
    rw [List.nodup_cons] at hn
    have h1 := hm r (by simp)
    have W := putObj_wr (o := .deferred none) h1
    refine ⟨by simp, .inl ⟨r, _, rfl, run_takeDeferred h1, ?_⟩⟩
    refine leaves_marks rs _ hn.2 (fun r' hr' => ?_) fun w' hw' => h w' ⟨hw'.size.trans W.size, fun b hb => ?_, hw'.os.trans W.os, hw'.tape.trans W.tape, hw'.out.trans W.out⟩
    · rw [W.other r' (fun e => hn.1 (e ▸ hr'))]; exact hm r' (by simp [hr'])
    · simp only [List.mem_cons, not_or] at hb
      rw [hw'.other b hb.2, W.other b hb.1]
theorem mk1_inj {rs qs : List Nat} (h : rs.map mk1 = qs.map mk1) : rs = qs := by
  induction rs generalizing qs with
  | nil => cases qs with
    | nil => rfl
    | cons => simp at h
  | cons r rs ih => cases qs with
    | nil => simp at h
    | cons q qs =>
      simp only [List.map_cons, List.cons.injEq] at h
      obtain ⟨h1, h2⟩ := h
      rw [ih h2]
      simp only [mk1, Deferred.mk.injEq, Target.collected.injEq, and_true] at h1
      rw [h1]

end Go.Sx

namespace Go.Sx
variable {P : Program}

/-- a region, drawn or not, leaves what the executor says -/
def RegOK (P : Program) (z : Bool) : Prop := ∀ {β : Type} (call : CallF β), CallOK P call → ∀ (n id : Nat) (ops : Array Oper) (s : S) (k : S → Option β) (r : β), Top s → drawRun P z call n ops.toList s k = some r →
  SeqOK n s k r (fun ro Q => (Code.region id ops true).wpIn (FR ro) 0 P Q)

section
variable {β : Type} {z : Bool} {Sg : FuncId → Option Sum} (hng : ∀ (g : Nat) (fn : Func), P.funcs[g]? = some fn → (fn.name == "runtime.NumGoroutine") = false)
  (hS : SumOK P Sg) (hdraw : RegOK P z)
include hng hS hdraw

omit hng hS hdraw in
theorem body_calls {ex : ExecF β} (hex : ExecM P z ex) {g : FuncId} {fn : Func} {c : Code} (hf : P.funcs[g]? = some fn) (hb : fn.body = some c) {args : List RV} {s : S} {k : RV → S → Option β} {r : β} (ht : Top s)
    (h : bodyRun P ex fn c args s k = some r) : ∃ v s' L, k v s' = some r ∧ CallInfo P g args s v s' L := by
  unfold bodyRun at h
  obtain ⟨sl, h1, h2, h3⟩ := setArgs_ok h
  obtain ⟨x, s1, L, m, h4, ab, hw⟩ := hex _ _ _ _ _ (by exact ht) h1
  have hx : (x = .normal ∨ x = .ret) ∧ ∃ l, resOf P fn.ntmps s1 fn.results.toList = some l ∧ k (resRV l) { s1 with sl := s.sl } = some r := by
    cases x with
    | exit id => simp [backRun] at h4
    | normal =>
      simp only [backRun] at h4
      split at h4 <;> try (cases h4; done)
      rename_i l hl
      exact ⟨.inl rfl, l, hl, h4⟩
    | ret =>
      simp only [backRun] at h4
      split at h4 <;> try (cases h4; done)
      rename_i l hl
      exact ⟨.inr rfl, l, hl, h4⟩
  obtain ⟨hx, l, hl, hk⟩ := hx
  refine ⟨resRV l, { s1 with sl := s.sl }, L, hk, ⟨⟨fn, hf, by rw [hb]; rfl⟩, rfl, ⟨ab.lg, ab.le, ab.keep, ab.top, ab.lt⟩, ?_⟩⟩
  intro ρ w vs hr hfr hargs
  obtain ⟨len, hget⟩ := hargs.get
  have R0 : RelM fn.ntmps ρ { s with sl := sl } { tmps := vs.toArray ++ Array.replicate (fn.ntmps - vs.toArray.size) undef, defers := [] } w := by
    have hle : vs.length ≤ fn.ntmps := by
      rcases h3 with rfl | h3
      · simp at len; rw [len]; simp
      · omega
    refine ⟨by simp; omega, Marks.nil, fun t => ?_, hr, hfr⟩
    unfold slot
    simp only
    rw [h2]
    simp only [Nat.zero_le, true_and, Nat.zero_add, Nat.sub_zero, T.get_nil]
    by_cases hlt : t < args.length
    · have hlt' : t < vs.length := by omega
      rw [if_pos (show t < fn.ntmps by omega), if_pos hlt]
      obtain ⟨V, e1, e2⟩ := hget t args[t] (List.getElem?_eq_getElem hlt)
      rw [List.getElem?_eq_getElem hlt]
      have : (vs.toArray ++ Array.replicate (fn.ntmps - vs.toArray.size) undef).getD t undef = V := by
        rw [Array.getD_eq_getD_getElem?, Array.getElem?_append_left (by simpa using hlt')]
        simp [e1]
      rw [this]
      exact e2
    · rw [if_neg hlt]
      have : (vs.toArray ++ Array.replicate (fn.ntmps - vs.toArray.size) undef).getD t undef = undef := by
        rw [Array.getD_eq_getD_getElem?, Array.getElem?_append_right (by simp; omega)]
        rw [Array.getElem?_replicate]
        split <;> rfl
      rw [this]
      simp only [ite_self, Option.getD_none]
      exact und_ok
  refine (callsIn_wide (n := 0)).1 (callsIn_of_wp_marks (F := FR none) hf hb trivial ?_)
  refine wpIn_mono (hw none (.inl rfl) ρ _ w R0).wp fun e a' w' hq => ?_
  obtain ⟨hxr, ρ', R', st, gr⟩ := hq
  have fin : LeavesInM (FR none) 0 P fn a'.tmps (fun e w' => ∃ V ρ', e = .returned V ∧ RVR ρ' (resRV l) V ∧ HRel ρ' s1.hp.get w' ∧ Fresh ρ' s1.nx ∧ Stp ρ s.hp.get s.nx w ρ' s1.hp.get s1.nx w' L) a'.defers .returning w' := by
    obtain ⟨rs, d1, d2, _⟩ := gr
    obtain ⟨qs, d3, d4, d5⟩ := R'.df
    rw [List.append_nil] at d1
    obtain rfl := mk1_inj (d1.symm.trans d3)
    rw [d1]
    refine leaves_marks rs w' d4 d5 fun w2 hb2 => ?_
    have hr2 := R'.hp.same (w' := w2) (fun nm x b c hx hnm => hb2.other b fun hm => by
      obtain ⟨b2, c2, o2, e1, e2, e3⟩ := R'.hp.ok nm x hx
      rw [hnm] at e1
      simp only [Option.some.injEq, Prod.mk.injEq] at e1
      obtain ⟨rfl, rfl⟩ := e1
      rw [d5 b hm] at e2
      cases e2
      exact e3.noDef) (fun b l h => hb2.other b fun hm => by
      obtain ⟨cs, t, fr, e2, _⟩ := (R'.hp.fz b l h).1
      rw [d5 b hm] at e2
      cases e2)
    obtain ⟨V, v1, v2⟩ := results_okM (a := { tmps := a'.tmps, defers := [] }) ⟨R'.sz, Marks.nil, R'.sl, hr2, R'.fresh⟩ hl
    refine ⟨V, v2, V, ρ', rfl, v1, hr2, R'.fresh, ⟨st.le, st.rho, st.keep, by rw [hb2.size]; exact st.size, fun b hb hn => ?_, st.new, st.own, hb2.os.trans st.os, hb2.tape.trans st.tape, hb2.out.trans st.out, st.fzk, st.fzn⟩⟩
    rw [hb2.other b fun hm => absurd (d2 b hm) (Nat.not_le_of_lt hb)]
    exact st.frame b hb hn
  rcases hx with rfl | rfl
  · cases e <;> simp only [XR] at hxr
    exact fin
  · cases e <;> simp only [XR] at hxr
    exact fin

omit hng hdraw in
theorem callBy_ok {ex : ExecF β} (hex : ExecM P z ex) : CallOK P (callBy P Sg ex) := by
  intro g args s k r ht h
  unfold callBy at h
  split at h
  · split at h <;> try (cases h; done)
    rename_i hg
    obtain ⟨v, s', L, h1, h2⟩ := yieldRun_ok hex ht h
    exact ⟨v, s', L, h1, .inr ⟨Nat.le_of_ble_eq_true hg, h2⟩⟩
  · rename_i fn hf
    split at h <;> try (cases h; done)
    rename_i hg
    have hlt : g < YB := by simpa [Nat.blt_eq] using hg
    split at h <;> try (cases h; done)
    rename_i c hb
    have body : ∀ {h : bodyRun P ex fn c args s k = some r}, ∃ v s' L, k v s' = some r ∧ TInfo P g args s v s' L := fun {h} => by
      obtain ⟨v, s', L, h1, h2⟩ := body_calls hex hf hb ht h
      exact ⟨v, s', L, h1, .inl ⟨hlt, h2⟩⟩
    split at h
    · rename_i sm hsm
      split at h
      · rename_i v hp nx lg hsum
        exact ⟨v, _, lg, h, .inl ⟨hlt, hS g sm hsm args s v hp nx lg ht hsum⟩⟩
      · exact body (h := h)
    · exact body (h := h)

omit hng hS hdraw in
theorem PostX.trans {n : Nat} {ρ ρ1 : Rho} {s s1 s2 : S} {w w1 : World} {x : X} {L1 L2 : List Nat} (st : StpS ρ s w ρ1 s1 w1 L1) {e : Exit} {a' : Act} {w' : World} (h : PostX n ρ1 s1 w1 x s2 L2 e a' w') : PostX n ρ s w x s2 (L2 ++ L1) e a' w' := by
  obtain ⟨h1, ρ', h2, h3⟩ := h
  exact ⟨h1, ρ', h2, st.trans h3⟩
omit hng hS hdraw in
theorem PostM.trans {g : Bool} {n : Nat} {ρ ρ1 : Rho} {s s1 s2 : S} {w w1 : World} {ds ds1 : List Deferred} {x : X} {L1 L2 : List Nat} (st : StpS ρ s w ρ1 s1 w1 L1) (hd : Grown g w ds ds1) {e : Exit} {a' : Act} {w' : World}
    (h : PostM g n ρ1 s1 w1 ds1 x s2 L2 e a' w') : PostM g n ρ s w ds x s2 (L2 ++ L1) e a' w' := by
  obtain ⟨h1, ρ', h2, h3, h4⟩ := h
  exact ⟨h1, ρ', h2, st.trans h3, hd.trans h4 st.size⟩
omit hng hS hdraw in
theorem roundsM_mono {ro : Option Nat} {c : Code} {Q Q' : Exit → Act → World → Prop} (h : ∀ e a w, Q e a w → Q' e a w) : ∀ m a w, Code.roundsIn (FR ro) 0 P c Q m a w → Code.roundsIn (FR ro) 0 P c Q' m a w
  | 0, _, _, hr => hr
  | m + 1, a, w, hr => by
    rw [roundsIn_succ] at hr ⊢
    refine wpIn_mono hr fun e a' w' hq => ?_
    cases e with
    | normal => exact roundsM_mono h m a' w' hq
    | _ => exact h _ _ _ hq

omit hng hS hdraw in
theorem rounds_mono0 {c : Code} {Q Q' : Exit → Act → World → Prop} (h : ∀ e a w, Q e a w → Q' e a w) : ∀ m a w, Code.rounds P c Q m a w → Code.rounds P c Q' m a w
  | 0, _, _, hr => hr
  | m + 1, a, w, hr => by
    rw [rounds_succ] at hr ⊢
    refine wp_mono hr fun e a' w' hq => ?_
    cases e with
    | normal => exact rounds_mono0 h m a' w' hq
    | _ => exact h _ _ _ hq
omit hng hS hdraw in
theorem slotsK_ok {sl : T RV} : ∀ {m : Nat} {acc : List RV} {k : List RV → Option β} {r : β}, slotsK sl m acc k = some r → ∃ l : List RV, k (l ++ acc) = some r ∧ l.length = m ∧ ∀ i, i < m → l[i]? = some ((sl.get i).getD und)
  | 0, acc, k, r, h => ⟨[], h, rfl, fun i hi => by omega⟩
  | m + 1, acc, k, r, h => by
    have h' : ∃ x, x = (sl.get m).getD und ∧ slotsK sl m (x :: acc) k = some r := by
      simp only [slotsK] at h
      split at h
      · rename_i v hv; exact ⟨v, by rw [hv]; rfl, h⟩
      · rename_i hv; exact ⟨und, by rw [hv]; rfl, h⟩
    obtain ⟨x, hx, h'⟩ := h'
    obtain ⟨l, h1, h2, h3⟩ := slotsK_ok h'
    refine ⟨l ++ [x], by rw [List.append_assoc]; exact h1, by simp [h2], fun i hi => ?_⟩
    by_cases e : i < m
    · rw [List.getElem?_append_left (by omega)]; exact h3 i e
    · have : i = m := by omega
      subst this
      rw [List.getElem?_append_right (by omega), h2, Nat.sub_self, hx]; rfl
omit hng hS hdraw in
theorem argsR_of {ρ : Rho} : ∀ {l : List RV} {vs : List Value}, l.length = vs.length → (∀ (i : Nat) (x : RV) (V : Value), l[i]? = some x → vs[i]? = some V → RVR ρ x V) → ArgsR ρ l vs
  | [], [], _, _ => rfl
  | x :: l, V :: vs, hl, h => ⟨V, vs, h 0 x V rfl rfl, argsR_of (by simpa using hl) (fun i x V h1 h2 => h (i + 1) x V (by simpa using h1) (by simpa using h2)), rfl⟩
  | [], _ :: _, hl, _ => by simp at hl
  | _ :: _, [], hl, _ => by simp at hl
omit hS hdraw in
theorem rangeRun_ok {call : CallF β} (hcall : CallOK P call) {n : Nat} {g : Operand} {ps : Array Tmp} {as bd : Code} {s : S} {k : X → S → Option β} {r : β} (ht : Top s) (h : rangeRun call n g ps as bd s k = some r) :
    ∃ x s' L m, k x s' = some r ∧ Abs s s' L ∧ ∀ (ro : Option Nat), (ro = none ∨ noRF (.rangeFunc g ps as bd) = true) → ∀ (ρ : Rho) (a : Act) (w : World), RelM n ρ s a w →
      WpXM ro P m (.rangeFunc g ps as bd) (PostM (true && ro.isNone) n ρ s w a.defers x s' L) a w := by
  unfold rangeRun at h
  split at h <;> try (cases h; done)
  rename_i f fs caps hg
  split at h <;> try (cases h; done)
  rename_i hYB
  have hYB : f < YB := by simpa [Nat.blt_eq] using hYB
  obtain ⟨l, h, hl1, hl2⟩ := slotsK_ok h
  rw [List.append_nil] at h
  obtain ⟨hp1, h, q1⟩ := T.set_ok _ _ _ _ _ _ h
  rw [fNat_eq] at h
  have topx : Top ⟨s.sl, hp1, s.nx + 1, s.lg⟩ := fun i hi => by
    have hi : s.nx + 1 ≤ i := hi
    show hp1.get i = none
    rw [q1, if_neg (by omega)]; exact ht i (by omega)
  obtain ⟨v, s1, L, h1, hi⟩ := hcall _ _ _ _ _ topx h
  have hi := (hi.resolve_right (fun h => absurd h.1 (Nat.not_le_of_lt hYB))).2
  unfold rangeK at h1
  split at h1 <;> try (cases h1; done)
  rename_i st sl1 ps1 as1 bd1 hloop
  obtain ⟨hp2, h2, q2⟩ := T.set_ok _ _ _ _ _ _ h1
  have hsl : s1.sl = s.sl := hi.sl
  have abx := hi.abs
  have ab : Abs s ⟨s1.sl, hp2, s1.nx, s1.lg⟩ L := ⟨abx.lg, Nat.le_trans (Nat.le_succ _) abx.le, fun nm h1 h2 => by
      show hp2.get nm = _
      rw [q2, if_neg (by omega), abx.keep nm (show nm < s.nx + 1 by omega) h2]
      show hp1.get nm = _
      rw [q1, if_neg (by omega)], fun nm hn => by
      show hp2.get nm = none
      rw [q2]
      split
      · rfl
      · exact abx.top nm hn, abx.lt⟩
  have fin : ∃ x, k x ⟨s1.sl, hp2, s1.nx, s1.lg⟩ = some r ∧ ∀ (state : LoopState) (pending : Option Code), LStR st state pending → state ≠ .busy ∧ (match pending with | none => x = .normal | some .ret => x = .ret | some (.exit id) => x = .exit id | _ => False) := by
    cases st with
    | ready => exact ⟨_, h2, fun state pending hst => by obtain ⟨e1, e2⟩ := hst; subst e1 e2; exact ⟨by simp, rfl⟩⟩
    | busy => cases h2
    | done id =>
      cases id with
      | none => exact ⟨_, h2, fun state pending hst => by obtain ⟨e1, e2⟩ := hst; subst e1 e2; exact ⟨by simp, rfl⟩⟩
      | some id => exact ⟨_, h2, fun state pending hst => by obtain ⟨e1, e2⟩ := hst; subst e1 e2; exact ⟨by simp, rfl⟩⟩
  obtain ⟨x, hk, hx⟩ := fin
  refine ⟨x, _, L, 0, hk, ab, fun ro hro ρ a w R => ?_⟩
  obtain rfl : ro = none := hro.resolve_right (by simp [noRF])
  show (Code.rangeFunc g ps as bd).wpIn (FR none) 0 P _ a w
  refine wpIn_rangeFunc fun fnid _ => ?_
  obtain ⟨fvs, cvs, c0, c1, c2⟩ := eval_ok (ρ := ρ) (n := n) (sl := s.sl) (a := a) (x := g) (fun t _ => R.sl t) _ hg
  obtain ⟨rec, hrec⟩ : ∃ rec : Loop, rec = { state := .ready, pending := none, fn := fnid, tmps := a.tmps, params := ps, assign := as, body := bd, defers := w.heap.size } := ⟨_, rfl⟩
  obtain ⟨W1, hW1⟩ : ∃ W1, (w.alloc (.deferred (some []))).alloc (.loop rec) = W1 := ⟨_, rfl⟩
  have hL1 : W1.heap[w.heap.size + 1]? = some (.loop rec) := by
    rw [← hW1]; have := World.alloc_heap_new (w.alloc (.deferred (some []))) (.loop rec); rwa [World.size_alloc] at this
  have hK1 : W1.heap[w.heap.size]? = some (.deferred (some [])) := by
    rw [← hW1]; exact (RowKit.Below.heap_alloc _ _ _ (by simp)).trans (World.alloc_heap_new w _)
  have hold : ∀ b, b < w.heap.size → W1.heap[b]? = w.heap[b]? := fun b hb => by
    rw [← hW1]; exact (RowKit.Below.heap_alloc _ _ _ (by simp; omega)).trans (RowKit.Below.heap_alloc _ _ _ hb)
  have hsz : W1.heap.size = w.heap.size + 2 := by rw [← hW1]; simp
  -- the heap behind the two blocks
  let ρ1 := ext ρ s.nx (w.heap.size + 1) 0
  have hargl : ArgsR ρ1 l a.tmps.toList := by
    refine argsR_of (by rw [hl1]; simpa using R.sz.symm) fun i y V h3 h4 => ?_
    have hi' : i < n := by
      have := (List.getElem?_eq_some_iff.1 h3).1
      omega
    rw [hl2 i hi', Option.some.injEq] at h3
    subst h3
    have := R.sl i
    unfold slot at this
    rw [if_pos hi'] at this
    have e : a.tmps.getD i undef = V := by rw [Array.getD_eq_getD_getElem?, ← Array.getElem?_toList, h4]; rfl
    rw [e] at this
    exact this.mono (ext_sub R.fresh _ _)
  have hr1 : HRel ρ1 hp1.get W1 := by
    constructor
    · intro i z hz
      rw [q1] at hz
      split at hz
      · rename_i e; subst e
        cases hz
        exact ⟨w.heap.size + 1, 0, _, by simp [ρ1, ext], hL1, rec, rfl, by rw [hrec]; exact hargl, by rw [hrec], by rw [hrec], by rw [hrec], by rw [hrec]; exact ⟨rfl, rfl⟩⟩
      · rename_i e
        obtain ⟨b', c', o', g1, g2, g3⟩ := R.hp.ok i z hz
        exact ⟨b', c', o', by simp [ρ1, ext, e, g1], (hold b' (lt_of_get g2)).trans g2, g3.mono (ext_sub R.fresh _ _)⟩
    · intro i j p q b1 c1 c2 hp hq hpw h1 h2
      rw [q1] at hp hq
      have old : ∀ i b' c', i ≠ s.nx → ρ1 i = some (b', c') → ρ i = some (b', c') := fun i b' c' h e => by simpa [ρ1, ext, h] using e
      by_cases hi : i = s.nx <;> by_cases hj : j = s.nx
      · rw [hi, hj]
      · rw [if_neg hj] at hq
        obtain ⟨b', c', o', g1, g2, _⟩ := R.hp.ok j q hq
        rw [old j _ _ hj h2] at g1
        simp only [Option.some.injEq, Prod.mk.injEq] at g1
        have := lt_of_get g2
        simp [ρ1, ext, hi] at h1
        omega
      · rw [if_neg hi] at hp
        obtain ⟨b', c', o', g1, g2, _⟩ := R.hp.ok i p hp
        rw [old i _ _ hi h1] at g1
        simp only [Option.some.injEq, Prod.mk.injEq] at g1
        have := lt_of_get g2
        simp [ρ1, ext, hj] at h2
        omega
      · rw [if_neg hi] at hp
        rw [if_neg hj] at hq
        exact R.hp.inj _ _ _ _ _ _ _ hp hq hpw (old i _ _ hi h1) (old j _ _ hj h2)
    · refine R.hp.fz.of (fun _ _ h => h) (fun b l h => hold b (R.hp.fz b l h).1.lt) fun i z b c hz hzw he => ?_
      rw [q1] at hz
      by_cases e : i = s.nx
      · subst e; simp [ρ1, ext] at he; right; omega
      · rw [if_neg e] at hz
        exact .inl ⟨i, z, c, hz, hzw, by simpa [ρ1, ext, e] using he⟩
  have hf1 : Fresh ρ1 (s.nx + 1) := fun i hi => by
    have : i ≠ s.nx := by omega
    simp [ρ1, ext, this, R.fresh i (by omega)]
  have hargs : ArgsR ρ1 (fs.map (fun (nm, off) => .one (.c (.ptr nm off))) ++ (.one (.c (.yield s.nx)) :: caps.map fun (nm, off) => .one (.c (.ptr nm off)))) (fvs ++ (.func (.yield (w.heap.size + 1)) #[] #[] :: cvs)) :=
    ArgsR.append (caps_args (c0.mono (ext_sub R.fresh _ _))) ⟨_, _, ⟨w.heap.size + 1, 0, by simp [ρ1, ext], rfl⟩, caps_args (c1.mono (ext_sub R.fresh _ _)), rfl⟩
  have hC := hi.run ρ1 W1 _ hr1 hf1 hargs
  obtain ⟨fn, f1, f2⟩ := hi.fn
  refine ⟨w.heap.size + 1, [mk1 w.heap.size], W1, { target := .fn (.func f) cvs.toArray, args := fvs.toArray ++ #[.func (.yield (w.heap.size + 1)) #[] #[]] }, W1, f, (fvs ++ (.func (.yield (w.heap.size + 1)) #[] #[] :: cvs)).toArray, W1, ?_, ?_, fun _ _ => trivial, ?_, depth_FR, ?_⟩
  · rw [← hW1, hrec]; exact run_enterLoop_outer _ _ _ _ _
  · simp only [resolve, c2, Deferred.ofValue]
    simp [Act.eval]
  · have ha : fvs.toArray ++ #[Value.func (.yield (w.heap.size + 1)) #[] #[]] ++ cvs.toArray = (fvs ++ (.func (.yield (w.heap.size + 1)) #[] #[] :: cvs)).toArray := by
      apply Array.toList_inj.1; simp
    simp only [invoke, callFunc, Sem.run_bind, run_program, Result.andThen_ok, f1, hng _ _ f1, f2, Bool.false_eq_true, if_false, Sem.run_pure]
    rw [← ha]
  refine (calls_FR hC).mono fun e w3 ⟨V, ρ', he, g1, g2, g3, g4⟩ => ?_
  subst he
  have g4 : Stp ρ1 hp1.get (s.nx + 1) W1 ρ' s1.hp.get s1.nx w3 L := g4
  have hnm : ρ' s.nx = some (w.heap.size + 1, 0) := by rw [g4.rho s.nx (Nat.lt_succ_self _)]; simp [ρ1, ext]
  obtain ⟨b', c', o', y1, y2, r3, rfl, _, _, _, _, y7⟩ := g2.ok _ _ hloop
  rw [hnm] at y1
  simp only [Option.some.injEq, Prod.mk.injEq] at y1
  obtain ⟨rfl, rfl⟩ := y1
  obtain ⟨z1, z2⟩ := hx _ _ y7
  refine ⟨r3.pending, _, run_endLoop y2 z1, ?_⟩
  have W4 := putObj_wr (o := .loop { r3 with state := .exhausted }) y2
  obtain ⟨w4, hw4⟩ : ∃ w4, w4 = w3.putObj (w.heap.size + 1) (.loop { r3 with state := .exhausted }) := ⟨_, rfl⟩
  rw [← hw4] at W4 ⊢
  have hold4 : ∀ b, b < w.heap.size → (∀ nm c, nm ∈ L → nm < s.nx → ρ nm ≠ some (b, c)) → w4.heap[b]? = w.heap[b]? := fun b hb hn => by
    rw [W4.other b (by omega), g4.frame b (by omega) fun nm c h1 h2 h3 => ?_, hold b hb]
    by_cases e : nm = s.nx
    · subst e; simp [ρ1, ext] at h3; omega
    · have h3 : ρ nm = some (b, c) := by simpa [ρ1, ext, e] using h3
      exact hn nm c h1 (by omega) h3
  have mk4 : Marks (mk1 w.heap.size :: a.defers) w4 := by
    obtain ⟨rs, m1, m2, m3⟩ := R.df
    have hM1 : Marks (mk1 w.heap.size :: a.defers) W1 := ⟨w.heap.size :: rs, by rw [m1]; rfl, List.nodup_cons.2 ⟨fun hm => by have := lt_of_get (m3 _ hm); omega, m2⟩, fun r hr => by
      rcases List.mem_cons.1 hr with rfl | hr
      · exact hK1
      · rw [hold r (lt_of_get (m3 r hr))]; exact m3 r hr⟩
    obtain ⟨qs, n1, n2, n3⟩ := hM1.stp hr1 g4
    refine ⟨qs, n1, n2, fun r hr => ?_⟩
    rw [W4.other r (fun e => by have := n3 r hr; rw [e, y2] at this; cases this)]
    exact n3 r hr
  have hr4 : HRel ρ' hp2.get w4 := by
    constructor
    · intro i z hz
      rw [q2] at hz
      split at hz
      · cases hz
      · rename_i e
        obtain ⟨b', c', o', k1, k2, k3⟩ := g2.ok i z hz
        refine ⟨b', c', o', k1, ?_, k3⟩
        rw [W4.other b' (fun e2 => e (g2.inj _ _ _ _ _ _ _ hloop hz rfl hnm (by rw [k1, e2])).symm)]
        exact k2
    · intro i j p q b1 c1 c2 hp hq hpw h1 h2
      rw [q2] at hp hq
      split at hp
      · cases hp
      · split at hq
        · cases hq
        · exact g2.inj _ _ _ _ _ _ _ hp hq hpw h1 h2
    · refine g2.fz.of (fun _ _ h => h) (fun b l h => W4.other b (g2.fzne hloop rfl hnm h)) fun i z b c hz hzw he => .inl ?_
      rw [q2] at hz
      split at hz
      · cases hz
      · exact ⟨i, z, c, hz, hzw, he⟩
  have R4 : RelM n ρ' ⟨s1.sl, hp2, s1.nx, s1.lg⟩ { a with defers := mk1 w.heap.size :: a.defers } w4 :=
    ⟨R.sz, mk4, fun t => by show RVR ρ' (slot n s1.sl t) _; rw [hsl]; exact ((R.sl t).mono (ext_sub R.fresh _ _)).mono (g4.sub hf1), hr4, g3⟩
  have st4 : Stp ρ s.hp.get s.nx w ρ' hp2.get s1.nx w4 L := by
    refine ⟨ab.le, fun nm hn => ?_, ab.keep, by rw [W4.size]; exact Nat.le_trans (by omega) g4.size, hold4, fun nm b c hn e => ?_, fun nm hm hn => ?_, ?_, ?_, ?_, fun b l h => g4.fzk b l h, fun b l h => ?_⟩
    · rw [g4.rho nm (by omega)]
      have : nm ≠ s.nx := by omega
      simp [ρ1, ext, this]
    · by_cases e2 : nm = s.nx
      · subst e2
        rw [hnm] at e
        simp only [Option.some.injEq, Prod.mk.injEq] at e
        left; omega
      · rcases g4.new nm b c (by omega) e with h | ⟨nm0, c0, m1, m2, m3⟩
        · left; omega
        · by_cases e3 : nm0 = s.nx
          · subst e3; simp [ρ1, ext] at m3; left; omega
          · exact .inr ⟨nm0, c0, m1, by omega, by simpa [ρ1, ext, e3] using m3⟩
    · obtain ⟨x, x1, x2⟩ := g4.own nm hm (by omega)
      rw [q1, if_neg (by omega)] at x1
      exact ⟨x, x1, x2⟩
    · rw [W4.os, g4.os, ← hW1]; rfl
    · rw [W4.tape, g4.tape, ← hW1]; rfl
    · rw [W4.out, g4.out, ← hW1]; rfl
    · rcases g4.fzn b l h with h | h | ⟨nm, c, m1, m2, m3⟩
      · exact .inl h
      · exact .inr (.inl (by omega))
      · by_cases e3 : nm = s.nx
        · subst e3; simp [ρ1, ext] at m3; exact .inr (.inl (by omega))
        · exact .inr (.inr ⟨nm, c, m1, by omega, by simpa [ρ1, ext, e3] using m3⟩)
  have gr4 : Grown (true && (none : Option Nat).isNone) w a.defers (mk1 w.heap.size :: a.defers) := ⟨[w.heap.size], rfl, fun r hr => by rw [List.mem_singleton.1 hr]; exact Nat.le_refl _, fun e => by cases e⟩
  have post : ∀ e, XR x e → PostM (true && (none : Option Nat).isNone) n ρ s w a.defers x ⟨s1.sl, hp2, s1.nx, s1.lg⟩ L e { a with defers := mk1 w.heap.size :: a.defers } w4 := fun e hx => ⟨hx, ρ', R4, st4, gr4⟩
  cases hpd : r3.pending with
  | none => rw [hpd] at z2; simp only at z2; subst z2; exact post .normal trivial
  | some c =>
    rw [hpd] at z2
    cases c <;> simp only at z2
    · subst z2; exact wpIn_exit (post _ rfl)
    · subst z2; exact wpIn_ret (post _ trivial)
theorem codeRun_ok {ex : ExecF β} (hex : ExecM P z ex) : ExecM P z (codeRun P Sg z ex) := by
  intro n c s k r ht h
  cases c with
  | skip => exact ⟨.normal, s, [], 0, h, Abs.refl ht, fun ro _ ρ a w R => wpIn_skip ⟨trivial, ρ, R, Stp.refl R.fresh, Grown.refl⟩⟩
  | ret => exact ⟨.ret, s, [], 0, h, Abs.refl ht, fun ro _ ρ a w R => wpIn_ret ⟨trivial, ρ, R, Stp.refl R.fresh, Grown.refl⟩⟩
  | exit id => exact ⟨.exit id, s, [], 0, h, Abs.refl ht, fun ro _ ρ a w R => wpIn_exit ⟨rfl, ρ, R, Stp.refl R.fresh, Grown.refl⟩⟩
  | seq x y =>
    simp only [codeRun] at h
    obtain ⟨e1, s1, L1, m1, h1, ab1, w1⟩ := hex _ _ _ _ _ ht h
    have no : ∀ ro : Option Nat, (ro = none ∨ noRF (.seq x y) = true) → (ro = none ∨ noRF x = true) ∧ (ro = none ∨ noRF y = true) := fun ro h => by
      rcases h with h | h
      · exact ⟨.inl h, .inl h⟩
      · simp only [noRF, Bool.and_eq_true] at h; exact ⟨.inr h.1, .inr h.2⟩
    cases e1 with
    | normal =>
      simp only [seqK] at h1
      obtain ⟨e2, s2, L2, m2, h2, ab2, w2⟩ := hex _ _ _ _ _ ab1.top h1
      refine ⟨e2, s2, L2 ++ L1, 0, h2, ab1.trans ab2, fun ro hro ρ a w R => wpIn_seq (wpIn_mono (w1 ro (no ro hro).1 ρ a w R).wp fun e a' w' hq => ?_)⟩
      obtain ⟨hx, ρ', R', st, gr⟩ := hq
      cases e <;> simp only [XR] at hx
      exact wpIn_mono (w2 ro (no ro hro).2 ρ' a' w' R').wp fun e a'' w'' hq => hq.trans st gr
    | exit id =>
      refine ⟨.exit id, s1, L1, 0, h1, ab1, fun ro hro ρ a w R => wpIn_seq (wpIn_mono (w1 ro (no ro hro).1 ρ a w R).wp fun e a' w' hq => ?_)⟩
      obtain ⟨hx, hq⟩ := hq
      cases e <;> simp only [XR] at hx
      subst hx
      exact ⟨rfl, hq⟩
    | ret =>
      refine ⟨.ret, s1, L1, 0, h1, ab1, fun ro hro ρ a w R => wpIn_seq (wpIn_mono (w1 ro (no ro hro).1 ρ a w R).wp fun e a' w' hq => ?_)⟩
      obtain ⟨hx, hq⟩ := hq
      cases e <;> simp only [XR] at hx
      exact ⟨trivial, hq⟩
  | cond c x y =>
    simp only [codeRun] at h
    unfold condRun at h
    split at h <;> try (cases h; done)
    rename_i t hc
    have no : ∀ ro : Option Nat, (ro = none ∨ noRF (.cond c x y) = true) → (ro = none ∨ noRF x = true) ∧ (ro = none ∨ noRF y = true) := fun ro h => by
      rcases h with h | h
      · exact ⟨.inl h, .inl h⟩
      · simp only [noRF, Bool.and_eq_true] at h; exact ⟨.inr h.1, .inr h.2⟩
    have hev : ∀ (ρ : Rho) (a : Act) (w : World), RelM n ρ s a w → a.eval c = .bool t := fun ρ a w R => by
      have := eval_ok (ρ := ρ) (n := n) (sl := s.sl) (a := a) (x := c) (fun t _ => R.sl t) _ hc
      exact this
    cases t with
    | true =>
      obtain ⟨e1, s1, L1, m1, h1, ab1, w1⟩ := hex _ _ _ _ _ ht h
      exact ⟨e1, s1, L1, 0, h1, ab1, fun ro hro ρ a w R => wpIn_cond_true (hev ρ a w R) (w1 ro (no ro hro).1 ρ a w R).wp⟩
    | false =>
      obtain ⟨e1, s1, L1, m1, h1, ab1, w1⟩ := hex _ _ _ _ _ ht h
      exact ⟨e1, s1, L1, 0, h1, ab1, fun ro hro ρ a w R => wpIn_cond_false (hev ρ a w R) (w1 ro (no ro hro).2 ρ a w R).wp⟩
  | block id c =>
    simp only [codeRun] at h
    obtain ⟨e1, s1, L1, m1, h1, ab1, w1⟩ := hex _ _ _ _ _ ht h
    cases e1 with
    | normal =>
      refine ⟨.normal, s1, L1, 0, h1, ab1, fun ro hro ρ a w R => wpIn_block (wpIn_mono (w1 ro hro ρ a w R).wp fun e a' w' hq => ?_)⟩
      obtain ⟨hx, hq⟩ := hq
      cases e <;> simp only [XR] at hx
      exact ⟨trivial, hq⟩
    | ret =>
      refine ⟨.ret, s1, L1, 0, h1, ab1, fun ro hro ρ a w R => wpIn_block (wpIn_mono (w1 ro hro ρ a w R).wp fun e a' w' hq => ?_)⟩
      obtain ⟨hx, hq⟩ := hq
      cases e <;> simp only [XR] at hx
      exact ⟨trivial, hq⟩
    | exit j =>
      simp only [blockK] at h1
      by_cases hj : j = id
      · rw [if_pos hj] at h1
        refine ⟨.normal, s1, L1, 0, h1, ab1, fun ro hro ρ a w R => wpIn_block (wpIn_mono (w1 ro hro ρ a w R).wp fun e a' w' hq => ?_)⟩
        obtain ⟨hx, hq⟩ := hq
        cases e <;> simp only [XR] at hx
        subst hx
        simp only [Exit.inBlock, hj, if_true]
        exact ⟨trivial, hq⟩
      · rw [if_neg hj] at h1
        refine ⟨.exit j, s1, L1, 0, h1, ab1, fun ro hro ρ a w R => wpIn_block (wpIn_mono (w1 ro hro ρ a w R).wp fun e a' w' hq => ?_)⟩
        obtain ⟨hx, hq⟩ := hq
        cases e <;> simp only [XR] at hx
        subst hx
        simp only [Exit.inBlock, hj, if_false]
        exact ⟨rfl, hq⟩
  | loop c =>
    simp only [codeRun] at h
    obtain ⟨e1, s1, L1, m1, h1, ab1, w1⟩ := hex _ _ _ _ _ ht h
    cases e1 with
    | normal =>
      simp only [seqK] at h1
      obtain ⟨e2, s2, L2, m2, h2, ab2, w2⟩ := hex _ _ _ _ _ ab1.top h1
      refine ⟨e2, s2, L2 ++ L1, m2 + 1, h2, ab1.trans ab2, fun ro hro ρ a w R => ?_⟩
      show c.wpIn (FR ro) 0 P (Exit.then (Code.roundsIn (FR ro) 0 P c _ m2) _) a w
      refine wpIn_mono (w1 ro hro ρ a w R).wp fun e a' w' hq => ?_
      obtain ⟨hx, ρ', R', st, gr⟩ := hq
      cases e <;> simp only [XR] at hx
      have := w2 ro hro ρ' a' w' R'
      exact roundsM_mono (fun e a w hq => PostM.trans st gr hq) m2 a' w' this
    | exit id =>
      refine ⟨.exit id, s1, L1, 1, h1, ab1, fun ro hro ρ a w R => ?_⟩
      show c.wpIn (FR ro) 0 P (Exit.then (Code.roundsIn (FR ro) 0 P c _ 0) _) a w
      refine wpIn_mono (w1 ro hro ρ a w R).wp fun e a' w' hq => ?_
      obtain ⟨hx, hq⟩ := hq
      cases e <;> simp only [XR] at hx
      subst hx
      exact ⟨rfl, hq⟩
    | ret =>
      refine ⟨.ret, s1, L1, 1, h1, ab1, fun ro hro ρ a w R => ?_⟩
      show c.wpIn (FR ro) 0 P (Exit.then (Code.roundsIn (FR ro) 0 P c _ 0) _) a w
      refine wpIn_mono (w1 ro hro ρ a w R).wp fun e a' w' hq => ?_
      obtain ⟨hx, hq⟩ := hq
      cases e <;> simp only [XR] at hx
      exact ⟨trivial, hq⟩
  | region id ops draw =>
    simp only [codeRun] at h
    cases draw with
    | false =>
      simp only [regionRun] at h
      obtain ⟨s', L, h1, ab, hw⟩ := opsRun_ok (callBy_ok hS hex) hng ht h
      exact ⟨.normal, s', L, 0, h1, ab, fun ro _ ρ a w R => wpIn_region_list (hw ro ρ a w R _ fun a' w' ρ' R' st hd => ⟨trivial, ρ', R', st, by rw [hd]; exact Grown.refl⟩)⟩
    | true =>
      simp only [regionRun] at h
      obtain ⟨s', L, h1, ab, hw⟩ := hdraw _ (callBy_ok hS hex) n id ops s _ r ht h
      exact ⟨.normal, s', L, 0, h1, ab, fun ro _ ρ a w R => hw ro ρ a w R _ fun a' w' ρ' R' st hd => ⟨trivial, ρ', R', st, by rw [hd]; exact Grown.refl⟩⟩
  | rangeFunc g ps as bd =>
    simp only [codeRun] at h
    cases z with
    | false => cases h
    | true => exact rangeRun_ok hng (callBy_ok hS hex) ht h
  | _ => simp [codeRun] at h

theorem exec_okM : ∀ f, ExecM P z (exec (β := β) P Sg z f)
  | 0 => fun n c s k r _ h => by cases h
  | f + 1 => codeRun_ok hng hS hdraw (exec_okM f)

end
/-- with no ranges over functions: as it was -/
theorem ExecM.ok {β : Type} {ex : ExecF β} (h : ExecM P false ex) : ExecOK P ex := by
  intro n c s k r ht hr
  obtain ⟨x, s', L, m, h1, h2, h3⟩ := h n c s k r ht hr
  refine ⟨x, s', L, m, h1, h2, fun ρ a w R => ?_⟩
  have h4 := h3 none (.inl rfl) ρ a w R.m
  have post : ∀ e a' w', PostM (false && (none : Option Nat).isNone) n ρ s w a.defers x s' L e a' w' → PostX n ρ s w x s' L e a' w' := fun e a' w' ⟨q1, ρ', q2, q3, q4⟩ => ⟨q1, ρ', q2.rel (by rw [Grown.eq q4, R.df]), q3⟩
  cases c with
  | loop c => exact rounds_mono0 post _ _ _ (rounds_FR h4)
  | _ => exact wp_mono (wpIn_wide.1 h4) post
end Go.Sx

namespace Go.Sx
variable {P : Program}

/-! ## Counting what is done -/
def cnt (f : Nat → Bool) : Nat → Nat
  | 0 => 0
  | n + 1 => cnt f n + (if f n = true then 1 else 0)

theorem cnt_le (f : Nat → Bool) : ∀ n, cnt f n ≤ n
  | 0 => Nat.le_refl _
  | n + 1 => by have := cnt_le f n; simp only [cnt]; split <;> omega

theorem cnt_all (f : Nat → Bool) : ∀ n, n ≤ cnt f n → ∀ i, i < n → f i = true
  | 0, _, i, h => by omega
  | n + 1, h, i, hi => by
    have h1 := cnt_le f n
    simp only [cnt] at h
    by_cases hn : f n = true
    · rw [if_pos hn] at h
      by_cases e : i = n
      · subst e; exact hn
      · exact cnt_all f n (by omega) i (by omega)
    · rw [if_neg hn] at h; omega

theorem cnt_congr {f g : Nat → Bool} : ∀ {n : Nat}, (∀ i, i < n → f i = g i) → cnt f n = cnt g n
  | 0, _ => rfl
  | n + 1, h => by simp only [cnt]; rw [cnt_congr fun i hi => h i (by omega), h n (by omega)]

theorem cnt_set {f g : Nat → Bool} {j : Nat} (hg : ∀ i, g i = if i = j then true else f i) : ∀ {n : Nat}, j < n → f j = false → cnt g n = cnt f n + 1
  | n + 1, h, h0 => by
    simp only [cnt]
    by_cases e : j = n
    · subst e
      rw [cnt_congr (g := f) fun i hi => by rw [hg, if_neg (by omega)], hg, if_pos rfl, h0]
      simp
    · have hne : ¬ (n = j) := fun h' => e h'.symm
      rw [cnt_set hg (by omega) h0, hg, if_neg hne]
      omega

/-! ## What the run in the text's order leaves -/
theorem drawGo_ok {β : Type} {z : Bool} {call : CallF β} (hcall : CallOK P call) (hng : ∀ (g : Nat) (fn : Func), P.funcs[g]? = some fn → (fn.name == "runtime.NumGoroutine") = false) {n : Nat} {ops : Array Oper} {r : β} :
    ∀ {rest : List Oper} {fps : List FP} {s : S} {k : List FP → S → Option β}, Top s → drawGo P z call n ops.toList rest fps s k = some r →
      ∃ (St : Nat → S) (nd : Nat → Need), St 0 = s ∧ (∀ i o, rest[i]? = some o → OpLoc P n ops o { St i with lg := [] } (nd i) (St (i + 1)) (St (i + 1)).lg) ∧
        k (fps ++ (List.range rest.length).map fun i => ⟨nd i, (St (i + 1)).lg, (St i).nx, (St (i + 1)).nx⟩) (St rest.length) = some r
  | [], fps, s, k, _, h => ⟨fun _ => s, fun _ => none, rfl, by simp, by simpa [drawGo] using h⟩
  | o :: rest, fps, s, k, ht, h => by
    simp only [drawGo] at h
    obtain ⟨nd0, s1, L, h1, hl⟩ := opRun_ok hcall hng (s := { s with lg := [] }) (by exact ht) h
    obtain ⟨St, nd, e0, h2, h3⟩ := drawGo_ok hcall hng hl.abs.top h1
    have hL : s1.lg = L := by rw [hl.abs.lg]; simp
    refine ⟨fun i => match i with | 0 => s | i + 1 => St i, fun i => match i with | 0 => nd0 | i + 1 => nd i, rfl, ?_, ?_⟩
    · intro i o' ho
      cases i with
      | zero =>
        simp at ho
        subst ho
        show OpLoc P n ops o { s with lg := [] } nd0 (St 0) (St 0).lg
        rw [e0, hL]
        exact hl
      | succ i =>
        exact h2 i o' (by simpa using ho)
    · simp only [List.length_cons]
      rw [List.range_succ_eq_map, List.map_cons, List.map_map]
      rw [List.append_assoc] at h3
      rw [e0]
      exact h3

/-! .. where a call of what leads nowhere is made with no memory -/
theorem addT_ok {β : Type} {lo : Nat} {src : T Blk} : ∀ {m : Nat} {t : T Blk} {k : T Blk → Option β} {r : β}, addT lo src m t k = some r →
    ∃ t', k t' = some r ∧ ∀ j, t'.get j = if lo ≤ j ∧ j < lo + m ∧ (src.get j).isSome = true then src.get j else t.get j
  | 0, t, k, r, h => ⟨t, h, fun j => by rw [if_neg (by omega)]⟩
  | m + 1, t, k, r, h => by
    simp only [addT] at h
    split at h
    · rename_i b hb
      obtain ⟨t1, h1, q1⟩ := T.set_ok _ _ _ _ _ _ h
      obtain ⟨t2, h2, q2⟩ := addT_ok h1
      refine ⟨t2, h2, fun j => ?_⟩
      rw [q2, q1]
      by_cases e : j = lo + m
      · subst e
        rw [if_neg (by omega), if_pos rfl, if_pos ⟨by omega, by omega, by rw [hb]; rfl⟩, hb]
      · rw [if_neg e]
        by_cases h3 : lo ≤ j ∧ j < lo + m ∧ (src.get j).isSome = true
        · rw [if_pos h3, if_pos ⟨h3.1, by omega, h3.2.2⟩]
        · rw [if_neg h3, if_neg (fun h4 => h3 ⟨h4.1, by omega, h4.2.2⟩)]
    · rename_i hb
      obtain ⟨t2, h2, q2⟩ := addT_ok h
      refine ⟨t2, h2, fun j => ?_⟩
      rw [q2]
      by_cases e : j = lo + m
      · subst e
        rw [if_neg (by omega), if_neg (fun h => by rw [hb] at h; simp at h)]
      · by_cases h3 : lo ≤ j ∧ j < lo + m ∧ (src.get j).isSome = true
        · rw [if_pos h3, if_pos ⟨h3.1, by omega, h3.2.2⟩]
        · rw [if_neg h3, if_neg (fun h4 => h3 ⟨h4.1, by omega, h4.2.2⟩)]
theorem opRunI_ok {β : Type} {z : Bool} {call : CallF β} (hcall : CallOK P call) (hng : ∀ (g : Nat) (fn : Func), P.funcs[g]? = some fn → (fn.name == "runtime.NumGoroutine") = false) {n : Nat} {ops : Array Oper} {o : Oper} {s : S} {k : Need → S → Option β} {r : β} (htop : Top s)
    (h : opRunI P z call n ops.toList o s k = some r) : ∃ nd s' L, k nd s' = some r ∧ OpLoc P n ops o s nd s' L := by
  have base : ∀ (_ : opRun P z call n ops.toList o s k = some r), ∃ nd s' L, k nd s' = some r ∧ OpLoc P n ops o s nd s' L := fun h => opRun_ok hcall hng htop h
  unfold opRunI at h
  unfold opRun at base
  cases hg : guardOf n ops.toList s.sl o with
  | none => rw [hg] at h; cases h
  | some g =>
    rw [hg] at h base
    cases g with
    | false => exact base h
    | true =>
      simp only at h base
      cases hic : isCall o.op with
      | none => rw [hic] at h base; exact base h
      | some fa =>
        obtain ⟨fo, args⟩ := fa
        rw [hic] at h base
        simp only at h base
        unfold callRunI at h
        unfold callRun at base
        cases hcl : calleeOf n s.sl fo with
        | none => rw [hcl] at h; cases h
        | some q =>
          obtain ⟨fid, fsv, caps⟩ := q
          rw [hcl] at h base
          simp only at h base
          cases hl : evl (eval n s.sl) args.toList with
          | none => rw [hl] at h; cases h
          | some l =>
            rw [hl] at h base
            simp only at h base
            cases hfl : (fsv ++ (l ++ caps)).all bareV with
            | false => rw [hfl] at h; exact base h
            | true =>
              rw [hfl] at h
              simp only at h
              clear base
              unfold isCall at hic
              split at hic <;> try (cases hic; done)
              rename_i c hop
              split at hic <;> try (cases hic; done)
              rename_i fo' hcal
              simp only [Option.some.injEq, Prod.mk.injEq] at hic
              obtain ⟨rfl, rfl⟩ := hic
              have top0 : Top ⟨s.sl, .nil, s.nx, s.lg⟩ := fun i _ => T.get_nil i
              obtain ⟨v, s1, L, h1, hi⟩ := hcall _ _ _ _ _ top0 h
              obtain ⟨hp1, h1, q1⟩ := addT_ok h1
              obtain ⟨s2, h2, e1, e2, e3, e4, e5⟩ := putDst_ok h1
              have hsl : s1.sl = s.sl := hi.sl
              have hle : s.nx ≤ s1.nx := hi.abs.le
              have hget : ∀ nm, s.nx ≤ nm → s2.hp.get nm = s1.hp.get nm := fun nm hn => by
                rw [e1]
                show hp1.get nm = _
                rw [q1]
                by_cases hlt : nm < s1.nx
                · cases hs : s1.hp.get nm with
                  | none => rw [if_neg (fun h => by simp at h)]; exact htop nm hn
                  | some x => rw [if_pos ⟨hn, by omega, rfl⟩]
                · rw [if_neg (by omega), htop nm hn, hi.abs.top nm (by omega)]
              have hlow : ∀ nm, nm < s.nx → s2.hp.get nm = s.hp.get nm := fun nm hn => by
                rw [e1]
                show hp1.get nm = _
                rw [q1, if_neg (by omega)]
              refine ⟨some [], s2, L, h2, ⟨⟨by rw [e3]; exact hi.abs.lg, by rw [e2]; exact hle, fun nm h1 _ => hlow nm h1, fun nm hn => ?_, fun nm hm => by rw [e2]; exact hi.abs.lt nm hm⟩, fun i hne => by rw [e4, if_neg hne]; show s1.sl.get i = _; rw [hsl], e5, ?_⟩⟩
              · rw [e2] at hn
                have hn : s1.nx ≤ nm := hn
                rw [hget nm (by omega)]; exact hi.abs.top nm hn
              · intro ro ρ w a hh hsz hop' hr hf hnd next Q hn
                have hgd := guard_ok (ρ := ρ) hg hsz fun t ht => hop' t (List.mem_append.2 (.inr ht))
                rw [hgd, if_pos rfl]
                have hev : ∀ x ∈ o.op.operands.toList, EvR ρ (eval n s.sl) a.eval x := fun x hx => eval_ok fun t ht => hop' t (List.mem_append.2 (.inl (mem_tmpsOf hx ht)))
                have hmem : ∀ x ∈ c.args.toList, x ∈ o.op.operands.toList := fun x hx => by
                  rw [hop]; simp only [Op.operands, Call.operands, Array.toList_append, List.mem_append]; exact .inr hx
                have hfo : fo' ∈ o.op.operands.toList := by rw [hop]; simp [Op.operands, Call.operands, hcal]
                have hargs := evl_args hl fun x hx => hev x (hmem x hx)
                have hsub : HRel ρ (T.nil : T Blk).get w := hr.sub (fun i x hx => by rw [T.get_nil] at hx; cases hx)
                exact callee_run (P := P) hng (ro := ro) hop hcal hcl hi hsub hf hev hfo hargs (next := next) (Q := Q) (fun V w' ρ' g1 g2 g3 g4 => by
                  have g4 : Stp ρ (T.nil : T Blk).get s.nx w ρ' s1.hp.get s1.nx w' L := g4
                  obtain ⟨h', l1, l2, l3⟩ := g4.lift hr hf (fun i x hx => by rw [T.get_nil] at hx; cases hx) g2
                  refine hn V w' ρ' h' ?_ l1 (by rw [e2]; exact g3) (by rw [e2]; exact l2) (fun nm hm => ?_)
                  · intro d hd
                    have hlt := e5 d hd
                    simp only [slot, hlt, if_true, e4, hd, Option.getD_some]
                    exact g1
                  · rcases Nat.lt_or_ge nm s.nx with h3 | h3
                    · have hm := hm.resolve_right (by omega)
                      obtain ⟨x, x1, _⟩ := g4.own nm hm h3
                      rw [T.get_nil] at x1; cases x1
                    · rw [l3 nm (.inr h3), hget nm h3])
theorem drawGoI_ok {β : Type} {z : Bool} {call : CallF β} (hcall : CallOK P call) (hng : ∀ (g : Nat) (fn : Func), P.funcs[g]? = some fn → (fn.name == "runtime.NumGoroutine") = false) {n : Nat} {ops : Array Oper} {r : β} :
    ∀ {rest : List Oper} {fps : List FP} {s : S} {k : List FP → S → Option β}, Top s → drawGoI P z call n ops.toList rest fps s k = some r →
      ∃ (St : Nat → S) (nd : Nat → Need), St 0 = s ∧ (∀ i o, rest[i]? = some o → OpLoc P n ops o { St i with lg := [] } (nd i) (St (i + 1)) (St (i + 1)).lg) ∧
        k (fps ++ (List.range rest.length).map fun i => ⟨nd i, (St (i + 1)).lg, (St i).nx, (St (i + 1)).nx⟩) (St rest.length) = some r
  | [], fps, s, k, _, h => ⟨fun _ => s, fun _ => none, rfl, by simp, by simpa [drawGoI] using h⟩
  | o :: rest, fps, s, k, ht, h => by
    simp only [drawGoI] at h
    obtain ⟨nd0, s1, L, h1, hl⟩ := opRunI_ok hcall hng (s := { s with lg := [] }) (by exact ht) h
    obtain ⟨St, nd, e0, h2, h3⟩ := drawGoI_ok hcall hng hl.abs.top h1
    have hL : s1.lg = L := by rw [hl.abs.lg]; simp
    refine ⟨fun i => match i with | 0 => s | i + 1 => St i, fun i => match i with | 0 => nd0 | i + 1 => nd i, rfl, ?_, ?_⟩
    · intro i o' ho
      cases i with
      | zero =>
        simp at ho
        subst ho
        show OpLoc P n ops o { s with lg := [] } nd0 (St 0) (St 0).lg
        rw [e0, hL]
        exact hl
      | succ i =>
        exact h2 i o' (by simpa using ho)
    · simp only [List.length_cons]
      rw [List.range_succ_eq_map, List.map_cons, List.map_map]
      rw [List.append_assoc] at h3
      rw [e0]
      exact h3

/-! ## Which must come ahead -/
def edges (ops : Array Oper) (D : Nat → Prop) (j : Nat) : Prop := ∀ o, ops[j]? = some o → ∀ e ∈ o.after, Region.binds .any e = true → D e.on

theorem maskOf_ok {acc : List Nat} {D : Nat → Prop} (hacc : ∀ j i, D j → (acc.getD j 0).testBit i = true → D i) : ∀ {es : List Edge}, (∀ e ∈ es, Region.binds .any e = true → D e.on) →
    ∀ i, (maskOf acc es).testBit i = true → D i
  | [], _, i, h => by simp [maskOf] at h
  | e :: es, he, i, h => by
    simp only [maskOf] at h
    split at h
    · rename_i hb
      have hD := he e (by simp) hb
      have h' : ((2 ^ e.on ||| acc.getD e.on 0) ||| maskOf acc es).testBit i = true := h
      rw [Nat.testBit_or, Nat.testBit_or, Bool.or_eq_true, Bool.or_eq_true] at h'
      rcases h' with (h' | h') | h'
      · rw [Nat.testBit_two_pow] at h'
        have : e.on = i := by simpa using h'
        rw [← this]; exact hD
      · exact hacc _ _ hD h'
      · exact maskOf_ok hacc (fun e' h'' => he e' (List.mem_cons_of_mem _ h'')) i h'
    · exact maskOf_ok hacc (fun e' h'' => he e' (List.mem_cons_of_mem _ h'')) i h

theorem befs_len : ∀ (l : List Oper) (acc : List Nat), (befs l acc).length = acc.length + l.length
  | [], acc => by simp [befs]
  | o :: l, acc => by simp [befs, befs_len l]; omega

theorem befs_pre : ∀ (l : List Oper) (acc : List Nat) (j : Nat), j < acc.length → (befs l acc)[j]? = acc[j]?
  | [], acc, j, _ => rfl
  | o :: l, acc, j, h => by
    simp only [befs]
    rw [befs_pre l _ j (by simp; omega), List.getElem?_append_left h]

/-- what is closed under the edges is closed under the masks -/
theorem befs_ok {D : Nat → Prop} : ∀ (l : List Oper) (acc : List Nat), (∀ j i, D j → (acc.getD j 0).testBit i = true → D i) →
    (∀ j o, l[j]? = some o → D (acc.length + j) → ∀ e ∈ o.after, Region.binds .any e = true → D e.on) →
    (∀ j i, D j → ((befs l acc).getD j 0).testBit i = true → D i) ∧
    ∀ j o, l[j]? = some o → (∀ e ∈ o.after, Region.binds .any e = true → D e.on) → ∀ i, ((befs l acc).getD (acc.length + j) 0).testBit i = true → D i
  | [], acc, hacc, _ => ⟨hacc, by simp⟩
  | o :: l, acc, hacc, hl => by
    have hnew : ∀ i, (∀ e ∈ o.after, Region.binds .any e = true → D e.on) → (maskOf acc o.after.toList).testBit i = true → D i := fun i he h =>
      maskOf_ok hacc (fun e h' => he e (by simpa using h')) i h
    have hacc' : ∀ j i, D j → ((acc ++ [maskOf acc o.after.toList]).getD j 0).testBit i = true → D i := by
      intro j i hj h
      by_cases h1 : j < acc.length
      · rw [List.getD_eq_getElem?_getD, List.getElem?_append_left h1, ← List.getD_eq_getElem?_getD] at h
        exact hacc j i hj h
      · by_cases h2 : j = acc.length
        · subst h2
          simp at h
          exact hnew i (hl 0 o rfl (by simpa using hj)) h
        · rw [List.getD_eq_getElem?_getD, List.getElem?_eq_none (by simp; omega)] at h
          simp at h
    obtain ⟨g1, g2⟩ := befs_ok l (acc ++ [maskOf acc o.after.toList]) hacc' (fun j o' ho hD => hl (j + 1) o' (by simpa using ho) (by simpa [Nat.add_assoc, Nat.add_comm 1] using hD))
    refine ⟨g1, fun j o' ho he i h => ?_⟩
    cases j with
    | zero =>
      simp at ho
      subst ho
      simp only [befs, Nat.add_zero, List.getD_eq_getElem?_getD] at h
      rw [befs_pre _ _ _ (by simp)] at h
      simp at h
      exact hnew i he h
    | succ j =>
      have := g2 j o' (by simpa using ho) he i
      simp only [List.length_append, List.length_cons, List.length_nil] at this
      rw [show acc.length + (0 + 1) + j = acc.length + (j + 1) by omega] at this
      exact this h

/-! ## What the check says -/
structure PairOK (ops : List Oper) (oi oj : Oper) (fi fj : FP) : Prop where
  a1 : ∀ d, oi.dst = some d → d ∉ looks ops oj
  a2 : ∀ d, oj.dst = some d → d ∉ looks ops oi
  n1 : match fj.need with
    | none => fi.wr = [] ∧ fi.lo = fi.hi
    | some l => ∀ x ∈ l, x ∉ fi.wr ∧ ¬ (fi.lo ≤ x ∧ x < fi.hi)
  n2 : match fi.need with
    | none => ∀ x ∈ fj.wr, fi.lo ≤ x
    | some l => ∀ x ∈ l, x ∉ fj.wr
  w1 : ∀ x ∈ fi.wr, x ∉ fj.wr
  w2 : ∀ x ∈ fj.wr, ¬ (fi.lo ≤ x ∧ x < fi.hi)

theorem notIn_ok {l : List Nat} {x : Nat} (h : notIn l x = true) : x ∉ l := by
  simp [notIn] at h; exact h

theorem range_ok {lo hi x : Nat} (h : (!(Nat.ble lo x && Nat.blt x hi)) = true) : ¬ (lo ≤ x ∧ x < hi) := by
  intro ⟨h1, h2⟩
  have e1 : Nat.ble lo x = true := Nat.ble_eq_true_of_le h1
  have e2 : Nat.blt x hi = true := Nat.ble_eq_true_of_le h2
  rw [e1, e2] at h
  simp at h

theorem pair_ok {ops : List Oper} {oi oj : Oper} {fi fj : FP} (h1 : apart ops oi oj = true) (h2 : indep fi fj = true) : PairOK ops oi oj fi fj := by
  unfold apart at h1
  rw [Bool.and_eq_true] at h1
  unfold indep at h2
  simp only [Bool.and_eq_true] at h2
  obtain ⟨⟨⟨i1, i2⟩, i3⟩, i4⟩ := h2
  refine ⟨?_, ?_, ?_, ?_, ?_, ?_⟩
  · intro d hd
    have := h1.1
    rw [hd] at this
    exact notIn_ok this
  · intro d hd
    have := h1.2
    rw [hd] at this
    exact notIn_ok this
  · split
    · rename_i hn
      rw [hn] at i1
      simp only [Bool.and_eq_true, List.isEmpty_iff] at i1
      exact ⟨i1.1, Nat.eq_of_beq_eq_true i1.2⟩
    · rename_i l hn
      rw [hn] at i1
      intro x hx
      have := List.all_eq_true.1 i1 x hx
      rw [Bool.and_eq_true] at this
      exact ⟨notIn_ok this.1, range_ok this.2⟩
  · split
    · rename_i hn
      rw [hn] at i2
      intro x hx
      exact Nat.le_of_ble_eq_true (List.all_eq_true.1 i2 x hx)
    · rename_i l hn
      rw [hn] at i2
      intro x hx
      exact notIn_ok (List.all_eq_true.1 i2 x hx)
  · intro x hx
    exact notIn_ok (List.all_eq_true.1 i3 x hx)
  · intro x hx
    exact range_ok (List.all_eq_true.1 i4 x hx)

theorem pairs1_ok {ops : List Oper} {m : Nat} {oj : Oper} {fj : FP} : ∀ {os : List Oper} {fs : List FP} {b : Nat}, pairs1 ops m oj fj os fs b = true →
    ∀ i oi fi, os[i]? = some oi → fs[i]? = some fi → m.testBit (b + i) = true ∨ PairOK ops oi oj fi fj
  | [], _, _, _, i, _, _, h, _ => by simp at h
  | _ :: _, [], _, _, i, _, _, _, h => by simp at h
  | o :: os, f :: fs, b, h, i, oi, fi, ho, hf => by
    simp only [pairs1, Bool.and_eq_true, Bool.or_eq_true] at h
    cases i with
    | zero =>
      simp at ho hf
      subst ho hf
      rcases h.1 with h | h
      · exact .inl h
      · exact .inr (pair_ok h.1 h.2)
    | succ i =>
      have := pairs1_ok h.2 i oi fi (by simpa using ho) (by simpa using hf)
      rwa [show b + 1 + i = b + (i + 1) by omega] at this

theorem pairsAll_ok {ops : List Oper} : ∀ {os : List Oper} {ms : List Nat} {fs : List FP} {pre : List Oper} {pfs : List FP}, pairsAll ops os ms fs pre pfs = true → pre.length = pfs.length →
    ∀ j oj m fj, os[j]? = some oj → ms[j]? = some m → fs[j]? = some fj → ∀ i oi fi, i < pre.length + j → (pre ++ os)[i]? = some oi → (pfs ++ fs)[i]? = some fi → m.testBit i = true ∨ PairOK ops oi oj fi fj
  | [], _, _, _, _, _, _ => fun j _ _ _ h => by simp at h
  | _ :: _, [], _, _, _, _, _ => fun j _ _ _ _ h => by simp at h
  | _ :: _, _ :: _, [], _, _, _, _ => fun j _ _ _ _ _ h => by simp at h
  | o :: os, m0 :: ms, f :: fs, pre, pfs, h, hl => by
    intro j oj m fj ho hm hf i oi fi hi hoi hfi
    simp only [pairsAll, Bool.and_eq_true] at h
    cases j with
    | zero =>
      simp at ho hm hf
      subst ho hm hf
      have h1 : i < pre.length := by omega
      rw [List.getElem?_append_left h1] at hoi
      rw [List.getElem?_append_left (by omega)] at hfi
      have := pairs1_ok h.1 i oi fi hoi hfi
      rwa [Nat.zero_add] at this
    | succ j =>
      refine pairsAll_ok h.2 (by simp [hl]) j oj m fj (by simpa using ho) (by simpa using hm) (by simpa using hf) i oi fi (by simp; omega) ?_ ?_
      · simpa using hoi
      · simpa using hfi

/-- edges run back -/
theorem noRing_ok {ops : List Oper} : ∀ {os : List Oper} {b : Nat}, noRing ops os b = true → ∀ i o, os[i]? = some o → (∀ e ∈ o.after, Region.binds .any e = true → e.on < b + i)
  | [], _, _ => fun i _ h => by simp at h
  | o :: os, b, h => by
    intro i o' ho e he hb
    simp only [noRing, Bool.and_eq_true] at h
    cases i with
    | zero =>
      simp at ho
      subst ho
      have := List.all_eq_true.1 h.1.1.1 e (by simpa using he)
      rw [hb] at this
      simpa using this
    | succ i =>
      have := noRing_ok h.2 i o' (by simpa using ho) e he hb
      omega

end Go.Sx
