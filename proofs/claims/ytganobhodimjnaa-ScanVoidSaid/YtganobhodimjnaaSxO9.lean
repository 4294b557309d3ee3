/-
  A part of the executor Sx over the model's code (any program): its words, or its proof; no seat's statement stands here.
-/
import Derived.Test.YtganobhodimjnaaSxO8
namespace Go.Sx
variable {P : Program} {ρ : Rho} {w : World} {hp : Hp} {nx : Nat}

theorem run_append_in {ts : Array TypeId} {ty dt e : TypeId} {ti : TypeInfo} {base : Option Addr} {sLen sCap n : Nat} {S : Value} {us : List Value} (ht : ts[0]? = some dt) (hu : P.underlying dt = some (.slice e)) (hti : P.info? e = some ti)
    (harg : appArg P ts = true) (hl : (Builtin.lenOf S).run P w = .ok n w) (hfit : sLen + n ≤ sCap) (hfc : (Builtin.firstCells ti.size n S).run P w = .ok us.toArray w) :
    (Builtin.append_ ts ty #[.slice base sLen sCap, S]).run P w =
      (do if let some a := base then storeCells (a.add (sLen * ti.size)) us
          pure (.slice base (sLen + n) sCap) : Sem Value).run P w := by
  unfold appArg at harg
  split at harg <;> try (cases harg; done)
  rename_i xt hxt
  have hz : (∃ d, P.underlying xt = some (.slice d)) ∨ P.underlying xt = some .string := by
    split at harg
    · exact .inl ⟨_, by assumption⟩
    · exact .inr (by assumption)
    · cases harg
  rcases hz with ⟨d, hd⟩ | hd
  · simp [Builtin.append_, ht, hxt, run_underlying hu, run_underlying hd, run_sz hti, hl, hfit, hfc]
    cases base <;> rfl
  · simp [Builtin.append_, ht, hxt, run_underlying hu, run_underlying hd, run_sz hti, hl, hfit, hfc]
    cases base <;> rfl

theorem run_append_new {ts : Array TypeId} {ty dt e : TypeId} {ti : TypeInfo} {base : Option Addr} {sLen sCap n : Nat} {S zv : Value} {us old : List Value} (ht : ts[0]? = some dt) (hu : P.underlying dt = some (.slice e)) (hti : P.info? e = some ti)
    (harg : appArg P ts = true) (hl : ∀ w : World, (Builtin.lenOf S).run P w = .ok n w) (hfit : sCap < sLen + n) (hf : fits ti (sLen + n) = true)
    (hfc : ∀ w', w'.heap = w.heap → (Builtin.firstCells ti.size n S).run P w' = .ok us.toArray w') (hold : ∀ w', w'.heap = w.heap → (Builtin.firstCells ti.size sLen (.slice base sLen sCap)).run P w' = .ok old.toArray w')
    (hz : ∀ w : World, (zeroValue e).run P w = .ok zv w) (hzs : zv.cells.size = ti.size) :
    ∃ c tail w', (Builtin.append_ ts ty #[.slice base sLen sCap, S]).run P w = .ok (.slice (some ⟨w.heap.size, 0, none⟩) (sLen + n) c) w' ∧
      NewW w (.cells (old ++ us ++ tail).toArray e) w' ∧ sLen + n ≤ c ∧ tail.length = (c - (sLen + n)) * ti.size := by
  unfold appArg at harg
  split at harg <;> try (cases harg; done)
  rename_i xt hxt
  have hz' : (∃ d, P.underlying xt = some (.slice d)) ∨ P.underlying xt = some .string := by
    split at harg
    · exact .inl ⟨_, by assumption⟩
    · exact .inr (by assumption)
    · cases harg
  simp only [fits, Bool.and_eq_true] at hf
  obtain ⟨hb1, hb2⟩ := hf
  have hb1 : 1 ≤ ti.bytes := Nat.le_of_ble_eq_true hb1
  have hb2 : (sLen + n) * ti.bytes ≤ 140737488355328 := Nat.le_of_ble_eq_true hb2
  have hgrow := growslice_fits hfit hb2
  have hnot : ¬ (sLen + n ≤ sCap) := by omega
  have hb0 : ti.bytes ≠ 0 := by omega
  have hgt : ¬ (Builtin.nextslicecap (sLen + n) sCap * ti.bytes > 2 ^ 48) := by omega
  let q : Question := .appendCap (sLen + n) sCap e
  let c := q.cut (w.tape w.drawn q)
  let w1 : World := { w with drawn := w.drawn + 1 }
  have hcle : sLen + n ≤ c := by show sLen + n ≤ (sLen + n) + _; omega
  refine ⟨c, Array.toList (Builtin.zeroCells zv.cells (c - (sLen + n))), { w1 with heap := w1.heap.push (.cells (old ++ us ++ (Builtin.zeroCells zv.cells (c - (sLen + n))).toList).toArray e) }, ?_, ⟨rfl, rfl, rfl, rfl⟩, hcle, ?_⟩
  · have hgt' : ¬ (281474976710656 < Builtin.nextslicecap (sLen + n) sCap * ti.bytes) := by omega
    have hq : (Question.appendCap (sLen + n) sCap e).forced = false := rfl
    have fin : (if (Question.appendCap (sLen + n) sCap e).forced = true then
      (Sem.run P (Builtin.firstCells ti.size sLen (Value.slice base sLen sCap)) w).andThen fun a w' =>
        (Sem.run P (Builtin.firstCells ti.size n S) w').andThen fun a_1 w' =>
          (Sem.run P (zeroValue e) w').andThen fun a_2 w' =>
            (Sem.run P (newRow e (a ++ (a_1 ++ Builtin.zeroCells a_2.cells 0))) w').andThen fun a w' =>
              Result.ok (Value.slice (some a) (sLen + n) 0) w'
    else
      (Sem.run P (Builtin.firstCells ti.size sLen (Value.slice base sLen sCap)) w.drew).andThen fun a w' =>
        (Sem.run P (Builtin.firstCells ti.size n S) w').andThen fun a_1 w' =>
          (Sem.run P (zeroValue e) w').andThen fun a_2 w' =>
            (Sem.run P (newRow e (a ++ (a_1 ++ Builtin.zeroCells a_2.cells ((Question.appendCap (sLen + n) sCap e).cut (w.tape w.drawn (Question.appendCap (sLen + n) sCap e)) - (sLen + n))))) w').andThen fun a w' =>
              Result.ok (Value.slice (some a) (sLen + n) ((Question.appendCap (sLen + n) sCap e).cut (w.tape w.drawn (Question.appendCap (sLen + n) sCap e)))) w') =
      Result.ok (Value.slice (some { block := w.heap.size, off := 0 }) (sLen + n) c)
        (w1.alloc (Obj.cells (old ++ (us ++ (Builtin.zeroCells zv.cells (c - (sLen + n))).toList)).toArray e)) := by
      rw [hq]
      simp only [Bool.false_eq_true, if_false]
      rw [hold w.drew rfl]
      simp only [Result.andThen_ok]
      rw [hfc w.drew rfl]
      simp only [Result.andThen_ok, hz, newRow, Sem.run_bind, run_newObj, Sem.run_pure]
      show Result.ok _ _ = Result.ok _ _
      congr 1
      show w1.alloc _ = w1.alloc _
      congr 2
      apply Array.toList_inj.1
      simp [c, q]
    rcases hz' with ⟨d, hd⟩ | hd
    · simpa [Builtin.append_, ht, hxt, run_underlying hu, run_underlying hd, run_sz hti, hl, hnot, run_tInfo hti, hb0, hgt'] using fin
    · simpa [Builtin.append_, ht, hxt, run_underlying hu, run_underlying hd, run_sz hti, hl, hnot, run_tInfo hti, hb0, hgt'] using fin
  · simp [Builtin.zeroCells, hzs]

end Go.Sx
