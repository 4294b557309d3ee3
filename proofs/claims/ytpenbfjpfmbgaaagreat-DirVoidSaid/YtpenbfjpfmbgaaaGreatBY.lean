/-
  Parts of the executor Sx over the model's code (any program), or of this seat's walks: words and proofs that the row's text uses.
-/
import Derived.Test.YtpenbfjpfmbgaaaGreatBU
import Derived.Test.YtpenbfjpfmbgaaaGreatBW1
import Derived.KernelRfl
namespace Go.Sx
open Go.Proofs Go.RowKit Go.Sort
set_option maxRecDepth 100000
noncomputable def stp8 (r : Nat) : Nat := stp (stp (stp (stp (stp (stp (stp (stp r)))))))
noncomputable def sumStep : Sum := fun args hp nx =>
  match args with
  | [.one (.c (.int .u32 (.ofNat r))), .one (.c (.int .i64 (.ofNat m)))] => if Nat.beq m 8 && Nat.blt r 4294967296 then fNat (stp8 r) fun x => some (.one (.c (.int .u32 (.ofNat x))), hp, nx, []) else none
  | _ => none
theorem sumStep_ok {f : FuncId} (hfn : ∃ fn, Tryz.prog.funcs[f]? = some fn ∧ fn.body.isNone = false)
    (hc : ∀ (r : Nat) (n : Nat) (_ : r < 4294967296) (_ : n ≤ 1000000000000) (w : World), Calls Tryz.prog f #[.int .u32 r, .int .i64 n] w fun e w' => e = .returned (.int .u32 (iter stp n r)) ∧ w' = w)
    (args : List RV) (s : S) (v : RV) (hp : T Blk) (nx : Nat) (lg : List Nat) (ht : Top s) (h : sumStep args s.hp s.nx = some (v, hp, nx, lg)) :
    CallInfo Tryz.prog f args s v { s with hp := hp, nx := nx, lg := lg ++ s.lg } lg := by
  unfold sumStep at h
  split at h <;> try (cases h; done)
  rename_i r m
  split at h <;> try (cases h; done)
  rename_i hg
  rw [fNat_eq] at h
  simp only [Option.some.injEq, Prod.mk.injEq] at h
  obtain ⟨rfl, rfl, rfl, rfl⟩ := h
  simp only [Bool.and_eq_true, Nat.blt_eq] at hg
  obtain ⟨hm, hr⟩ := hg
  obtain rfl := Nat.eq_of_beq_eq_true hm
  refine CallInfo.quiet ht hfn fun ρ w vs hr' ha => ?_
  obtain ⟨V, vs1, hV, ⟨V2, vs2, hV2, h3, rfl⟩, rfl⟩ := ha
  cases hV; cases hV2; cases h3
  exact (hc r 8 hr (by omega) w).mono fun e w' ⟨e1, e2⟩ => ⟨_, e1, rfl, by rw [e2]; exact Below.refl _ _⟩
noncomputable def sumIns : Sum := fun args hp nx =>
  match args with
  | [.one (.c s), .one (.c (.int .i64 (.ofNat 0))), .one (.c (.sl nv 0 1 _))] => match hp.get nv with
    | some (.row _ false _ (.ints .i64 (x :: _) _)) => match s with
      | .sl0 => fInt x fun x => T.set depth hp nx (some (.row 3 false (some 1) (.ints .i64 [x] 1))) fun hp => fNat (nx + 1) fun nx' => some (.one (.c (.slu nx 1 0 1)), hp, nx', [])
      | .slu nm 1 0 len => match Nat.beq nm nv, hp.get nm with
        | false, some (.row 3 false (some 1) (.ints .i64 l _)) => match Nat.ble len l.length && Nat.ble len 1000000000 with
          | true => T.set depth hp nm none fun hp => fInts (x :: l.take len) fun r => fNat (len + 1) fun n => T.set depth hp nx (some (.row 3 false (some 1) (.ints .i64 r n))) fun hp => fNat (nx + 1) fun nx' => some (.one (.c (.slu nx 1 0 n)), hp, nx', [nm])
          | false => none
        | _, _ => none
      | _ => none
    | _ => none
  | _ => none
noncomputable def sumDel : Sum := fun args hp nx =>
  match args with
  | [.one (.c (.slu nm 1 0 len)), .one (.c (.int .i64 (.ofNat i))), .one (.c (.int .i64 (.ofNat j)))] => match hp.get nm with
    | some (.row 3 false (some 1) (.ints .i64 l _)) => match Nat.ble len l.length && (Nat.ble i j && Nat.ble j len) with
      | true => fInts ((l.take len).take i ++ (l.take len).drop j ++ List.replicate (j - i) 0) fun r => T.set depth hp nm (some (.row 3 false (some 1) (.ints .i64 r len))) fun hp => fNat (len - (j - i)) fun m => some (.one (.c (.slu nm 1 0 m)), hp, nx, [nm])
      | false => none
    | _ => none
  | _ => none
noncomputable def sumUse : Sum := fun args hp nx =>
  match args with
  | [.one (.c (.ptr nm 0))] => match hp.get nm with
    | some (.row t false none (.cells [.int .i64 left, .int .i64 (.ofNat used), .bool false])) => match decide (left = -1) && Nat.ble used 1000000000 with
      | true => fNat (used + 1) fun u => T.set depth hp nm (some (.row t false none (.cells [.int .i64 (-1), .int .i64 (.ofNat u), .bool false]))) fun hp => some (.one (.c (.int .i64 0)), hp, nx, [nm])
      | false => none
    | _ => none
  | _ => none
noncomputable def sumSortC : Sum := fun args hp nx => match args with
  | [.one (.c .sl0)] => some (.tup [], hp, nx, [])
  | [.one (.c (.slu nm 1 0 len))] => match hp.get nm with
    | some (.row 3 false (some 1) (.ints .i64 l n)) => match Nat.beq l.length len && (Nat.beq n len && Nat.blt len 4611686018427387904) with
      | true => fInts (sortI l) fun r => T.set depth hp nm (some (.row 3 false (some 1) (.ints .i64 r n))) fun hp => some (.tup [], hp, nx, [nm])
      | false => none
    | _ => none
  | _ => none
noncomputable def sgB : FuncId → Option Sum := fun f => match f with | 279 => some sumStep | 255 => some sumStep | 138 => some sumSortC | 80 => some sumIds | 194 => some sumUse | 244 => some sumDel | 246 => some sumIns | _ => none
end Go.Sx

namespace Go.Sx
open Go.Proofs Go.RowKit Go.Sort
set_option maxRecDepth 100000
theorem sumSortC_ok (args : List RV) (s : S) (v : RV) (hp : T Blk) (nx : Nat) (lg : List Nat) (ht : Top s) (h : sumSortC args s.hp s.nx = some (v, hp, nx, lg)) :
    CallInfo Tryz.prog 138 args s v { s with hp := hp, nx := nx, lg := lg ++ s.lg } lg := by
  unfold sumSortC at h
  split at h <;> try (cases h; done)
  · simp only [Option.some.injEq, Prod.mk.injEq] at h
    obtain ⟨rfl, rfl, rfl, rfl⟩ := h
    exact sumSort_ok _ _ _ _ _ _ [] ht rfl (by simp [All])
  · rename_i nm len
    split at h <;> try (cases h; done)
    rename_i l n hrow
    split at h <;> try (cases h; done)
    rename_i hg
    simp only [Bool.and_eq_true, Nat.blt_eq] at hg
    obtain ⟨g1, g2, g3⟩ := hg
    have g1 := Nat.eq_of_beq_eq_true g1
    have g2 := Nat.eq_of_beq_eq_true g2
    rw [fInts_eq, ← srt_sortI] at h
    obtain ⟨t', h, q⟩ := T.set_ok _ _ _ _ _ _ h
    simp only [Option.some.injEq, Prod.mk.injEq] at h
    obtain ⟨rfl, rfl, rfl, rfl⟩ := h
    exact sort_info ht hrow g1 g2 g3 q
theorem sumUse_ok (args : List RV) (s : S) (v : RV) (hp : T Blk) (nx : Nat) (lg : List Nat) (ht : Top s) (h : sumUse args s.hp s.nx = some (v, hp, nx, lg)) :
    CallInfo Tryz.prog 194 args s v { s with hp := hp, nx := nx, lg := lg ++ s.lg } lg := by
  unfold sumUse at h
  split at h <;> try (cases h; done)
  rename_i nm
  split at h <;> try (cases h; done)
  rename_i t left used hrow
  split at h <;> try (cases h; done)
  rename_i hg
  simp only [Bool.and_eq_true, decide_eq_true_eq] at hg
  obtain ⟨rfl, hu⟩ := hg
  have hu := Nat.le_of_ble_eq_true hu
  rw [fNat_eq] at h
  obtain ⟨t', h, q⟩ := T.set_ok _ _ _ _ _ _ h
  simp only [Option.some.injEq, Prod.mk.injEq] at h
  obtain ⟨rfl, rfl, rfl, rfl⟩ := h
  have hlt := ht.lt hrow
  refine CallInfo.upd (u := .wr nm (.row t false none (.cells [.int .i64 (-1), .int .i64 (.ofNat (used + 1)), .bool false]))) ht ⟨_, Tryz.func194, rfl⟩ (fun m hm => by rw [List.mem_singleton.1 hm]; exact hlt) (fun i => by rw [q]; rfl) rfl rfl fun ρ w vs hr hf ha => ?_
  obtain ⟨V, vs1, hV, h3, rfl⟩ := ha
  cases h3
  obtain ⟨b, c, b1, rfl⟩ := hV
  obtain ⟨b', c', o, e1, e2, e3⟩ := hr.ok _ _ hrow
  rw [b1] at e1
  simp only [Option.some.injEq, Prod.mk.injEq] at e1
  obtain ⟨rfl, rfl⟩ := e1
  obtain ⟨vs', tail, fr, rfl, ⟨v1, _, hv1, ⟨v2, _, hv2, ⟨v3, _, hv3, hv4, rfl⟩, rfl⟩, rfl⟩, g3, g4⟩ := e3
  obtain rfl := g3 rfl
  cases hv1; cases hv2; cases hv3; cases hv4; cases g4
  have hb := lt_of_get e2
  refine (use_walk b used w (cell_row e2 rfl) (cell_row e2 rfl) (cell_row e2 rfl) (frozen_row e2) hb).mono fun e w' ⟨q1, w1, hB, q2⟩ => ?_
  have e2' : w1.heap[b]? = some (.cells [.int .i64 (-1), .int .i64 (.ofNat used), .bool false].toArray t (0, 0)) := (hB.block b hb).trans e2
  have hw := setCell_wr (off := 1) (v := .int .i64 (wrap64 (.ofNat used + 1))) e2' (by simp)
  have hwr : wrap64 (.ofNat used + 1) = .ofNat (used + 1) := by
    show wrap64 ((used : Int) + 1) = ((used + 1 : Nat) : Int)
    rw [wrap64]; omega
  subst q2
  refine ⟨_, ρ, q1, HRel.wrCh hr hf hrow rfl b1 (o := _) ?_ hw.at_ ⟨?_, fun k hk hne => ?_, hw.os.trans hB.os, hw.tape.trans hB.tape, hw.out.trans hB.output⟩ rfl⟩
  · rw [hwr]
    exact ⟨_, [], (0, 0), rfl, ⟨_, _, rfl, ⟨_, _, rfl, ⟨_, _, rfl, rfl, rfl⟩, rfl⟩, rfl⟩, fun _ => rfl, rfl⟩
  · exact Nat.le_trans hB.size (Nat.le_of_eq hw.size.symm)
  · exact (hw.other k (fun e => hne (by rw [e]))).trans (hB.block k hk)
theorem sumDel_ok (args : List RV) (s : S) (v : RV) (hp : T Blk) (nx : Nat) (lg : List Nat) (ht : Top s) (h : sumDel args s.hp s.nx = some (v, hp, nx, lg)) :
    CallInfo Tryz.prog 244 args s v { s with hp := hp, nx := nx, lg := lg ++ s.lg } lg := by
  unfold sumDel at h
  split at h <;> try (cases h; done)
  rename_i nm len i j
  split at h <;> try (cases h; done)
  rename_i l n hrow
  split at h <;> try (cases h; done)
  rename_i hg
  simp only [Bool.and_eq_true] at hg
  obtain ⟨g1, g2, g3⟩ := hg
  have g1 := Nat.le_of_ble_eq_true g1
  have g2 := Nat.le_of_ble_eq_true g2
  have g3 := Nat.le_of_ble_eq_true g3
  rw [fInts_eq] at h
  obtain ⟨t', h, q⟩ := T.set_ok _ _ _ _ _ _ h
  simp only [fNat_eq, Option.some.injEq, Prod.mk.injEq] at h
  obtain ⟨rfl, rfl, rfl, rfl⟩ := h
  have hlt := ht.lt hrow
  obtain ⟨r, hrr⟩ : ∃ r, r = (l.take len).take i ++ (l.take len).drop j ++ List.replicate (j - i) 0 := ⟨_, rfl⟩
  rw [← hrr] at q
  have hlr : r.length = len := by rw [hrr]; simp; omega
  refine CallInfo.upd (u := .wr nm (.row 3 false (some 1) (.ints .i64 r len))) ht ⟨_, Tryz.func244, rfl⟩ (fun m hm => by rw [List.mem_singleton.1 hm]; exact hlt) (fun i => by rw [q]; rfl) rfl rfl fun ρ w vs hr hf ha => ?_
  obtain ⟨V, vs1, hV, ⟨_, _, hi, ⟨_, _, hj, h3, rfl⟩, rfl⟩, rfl⟩ := ha
  cases h3; cases hi; cases hj
  obtain ⟨b, c, off, b1, b2, b3, rfl⟩ := hV
  have hoff : off = 0 := by rcases b3 with b3 | ⟨_, b3⟩ <;> omega
  subst hoff
  obtain ⟨b', c', o, e1, e2, e3⟩ := hr.ok _ _ hrow
  rw [b1] at e1
  simp only [Option.some.injEq, Prod.mk.injEq] at e1
  obtain ⟨rfl, rfl⟩ := e1
  obtain ⟨vs', tail, fr, rfl, ⟨g5, rfl⟩, g6, g7, g8⟩ := e3
  obtain rfl := g6 rfl
  have hl : (l.take len).length = len := by simp; omega
  have hcur : ((l.map (Value.int .i64) ++ tail).toArray).toList.take (l.take len).length = (l.take len).map (Value.int .i64) := by
    rw [hl]
    show (l.map (Value.int .i64) ++ tail).take len = _
    rw [List.take_append_of_le_length (by simpa using g1), List.map_take]
  have hH := holds_of_blockI (ss := l.take len) e2 hcur
  have hcall := Any.slices_Delete_int Tryz.laysNm223 b 0 (c - 0) i j (l.take len) w hH (by omega) (by omega) g2 (by omega)
  rw [hl, ← hrr] at hcall
  refine hcall.mono fun e w' ⟨q1, nn, q2⟩ => ?_
  have hb' := heap_sortedI (n := nn) (os := #[]) r.toArray e2
  have hg := grownBy_sortedI (w := w) (g := b) (n := nn) (os := #[]) r.toArray
  rw [grow_empty] at hb' hg
  rw [← q2] at hb' hg
  refine ⟨_, ρ, q1, HRel.wrCh hr hf hrow rfl b1 (o := _) ?_ hb' ⟨hg.size, fun k h1 h2 => hg.block k h1 (fun e => h2 e.symm), hg.os, hg.tape, hg.output⟩ ⟨b, c, 0, b1, by omega, .inl (by simp), by simp⟩⟩
  have htk := take_putCellsI (l.map (Value.int .i64) ++ tail).toArray r (by simp; omega)
  refine ⟨r.map (Value.int .i64), (putCells (Value.int .i64) 0 r.toArray (l.map (Value.int .i64) ++ tail).toArray).toList.drop r.length, (0, 0), ?_, ⟨hlr, rfl⟩, fun _ => rfl, ?_⟩
  · rw [← htk, List.take_append_drop]
  · refine ⟨?_, g8⟩
    show (r.map (Value.int .i64) ++ _).length = c * 1
    rw [← htk, List.take_append_drop]
    simpa [putCells] using g7
theorem sumIns_ok (args : List RV) (s : S) (v : RV) (hp : T Blk) (nx : Nat) (lg : List Nat) (ht : Top s) (h : sumIns args s.hp s.nx = some (v, hp, nx, lg)) :
    CallInfo Tryz.prog 246 args s v { s with hp := hp, nx := nx, lg := lg ++ s.lg } lg := by
  unfold sumIns at h
  split at h <;> try (cases h; done)
  rename_i sl nv vc
  split at h <;> try (cases h; done)
  rename_i tv ov x lv nvv hrv
  split at h <;> try (cases h; done)
  · rw [fInt_eq] at h
    obtain ⟨t', h, q⟩ := T.set_ok _ _ _ _ _ _ h
    simp only [fNat_eq, Option.some.injEq, Prod.mk.injEq] at h
    obtain ⟨rfl, rfl, rfl, rfl⟩ := h
    refine CallInfo.upd (u := .new (.row 3 false (some 1) (.ints .i64 [x] 1))) ht ⟨_, Tryz.func246, rfl⟩ (fun m hm => by cases hm) (fun i => by rw [q]; rfl) rfl rfl fun ρ w vs hr hf ha => ?_
    obtain ⟨V, vs1, hV, ⟨_, _, hi, ⟨_, _, hj, h3, rfl⟩, rfl⟩, rfl⟩ := ha
    cases h3; cases hi; cases hV
    obtain ⟨vb, cv, b1, rfl⟩ := hj
    obtain ⟨b', c', o, e1, e2, e3⟩ := hr.ok _ _ hrv
    rw [b1] at e1
    simp only [Option.some.injEq, Prod.mk.injEq] at e1
    obtain ⟨rfl, rfl⟩ := e1
    obtain ⟨vs', tail, fr, rfl, ⟨g5, rfl⟩, g6, g7⟩ := e3
    obtain rfl := g6 rfl
    refine (ins_nil (vc := vc) e2).mono fun e w' hI => ?_
    obtain ⟨bn, cn, tl, q1, q2, q3, q4, q5, q6, q7⟩ := hI
    have hbn : w.heap.size ≤ bn := q6.resolve_right (by simp)
    exact ⟨_, _, q1, HRel.newCh (c := cn) hr hf hbn ⟨[.int .i64 x], tl, (0, 0), rfl, ⟨rfl, rfl⟩, fun _ => rfl, by simpa using q3, q5⟩ q2 q7 ⟨bn, cn, 0, by simp [ext], by omega, .inl (by simp), by simp⟩⟩
  · rename_i nm len
    split at h <;> try (cases h; done)
    rename_i l n hne hrow
    split at h <;> try (cases h; done)
    rename_i hg
    simp only [Bool.and_eq_true] at hg
    obtain ⟨g1, g2⟩ := hg
    have g1 := Nat.le_of_ble_eq_true g1
    have g2 := Nat.le_of_ble_eq_true g2
    have hnn : nm ≠ nv := Nat.ne_of_beq_eq_false hne
    obtain ⟨t1, h, qa⟩ := T.set_ok _ _ _ _ _ _ h
    simp only [fInts_eq, fNat_eq] at h
    obtain ⟨t2, h, qb⟩ := T.set_ok _ _ _ _ _ _ h
    simp only [Option.some.injEq, Prod.mk.injEq] at h
    obtain ⟨rfl, rfl, rfl, rfl⟩ := h
    have hlt := ht.lt hrow
    refine CallInfo.upd (u := .mv nm (.row 3 false (some 1) (.ints .i64 (x :: l.take len) (len + 1)))) ht ⟨_, Tryz.func246, rfl⟩ (fun m hm => by rw [List.mem_singleton.1 hm]; exact hlt) (fun i => by rw [qb, qa]; rfl) rfl rfl fun ρ w vs hr hf ha => ?_
    obtain ⟨V, vs1, hV, ⟨_, _, hi, ⟨_, _, hj, h3, rfl⟩, rfl⟩, rfl⟩ := ha
    cases h3; cases hi
    obtain ⟨vb, cv, b1, rfl⟩ := hj
    obtain ⟨b', c', o, e1, e2, e3⟩ := hr.ok _ _ hrv
    rw [b1] at e1
    simp only [Option.some.injEq, Prod.mk.injEq] at e1
    obtain ⟨rfl, rfl⟩ := e1
    obtain ⟨vs', tail, fr, rfl, ⟨g5, rfl⟩, g6, g7⟩ := e3
    obtain rfl := g6 rfl
    obtain ⟨b, c, off, d1, d2, d3, rfl⟩ := hV
    have hoff : off = 0 := by rcases d3 with d3 | ⟨_, d3⟩ <;> omega
    subst hoff
    obtain ⟨b', c', o, e1, f2, e3⟩ := hr.ok _ _ hrow
    rw [d1] at e1
    simp only [Option.some.injEq, Prod.mk.injEq] at e1
    obtain ⟨rfl, rfl⟩ := e1
    obtain ⟨vs', tl, fr, rfl, ⟨f5, rfl⟩, f6, f7, f8⟩ := e3
    obtain rfl := f6 rfl
    have hvb : vb ≠ b := fun e => hnn (hr.inj _ _ _ _ _ _ _ hrow hrv rfl d1 (by rw [b1, e]))
    have f2' : w.heap[b]? = some (.cells ((l.take len).map (Value.int .i64) ++ ((l.drop len).map (Value.int .i64) ++ tl)).toArray 3 (0, 0)) := by
      rw [f2, ← List.append_assoc, ← List.map_append, List.take_append_drop]
    refine (ins_row (vc := vc) e2 f2' (by simp; omega) (by rw [← List.append_assoc, ← List.map_append, List.take_append_drop]; simpa using f7) f8 g2 hvb (by intro v hv; obtain ⟨y, _, rfl⟩ := List.mem_map.1 hv; rfl)).mono fun e w' hI => ?_
    obtain ⟨bn, cn, tl', q1, q2, q3, q4, q5, q6, q7⟩ := hI
    exact ⟨_, _, q1, HRel.mvCh (c := cn) hr hf hrow rfl d1 hlt (q6.imp id (fun h => (Option.some.inj h).symm)) ⟨(x :: l.take len).map (Value.int .i64), tl', (0, 0), rfl, ⟨by simp; omega, rfl⟩, fun _ => rfl, by simpa using q3, q5⟩ q2 q7 ⟨bn, cn, 0, by simp [ext], by omega, .inl (by simp), by simp⟩⟩
theorem sgB_ok : SumOK Tryz.prog sgB := by
  intro g sm h args s v hp nx lg ht hs
  unfold sgB at h
  split at h
  · cases h; exact sumStep_ok ⟨_, Tryz.func279, rfl⟩ stepped_any args s v hp nx lg ht hs
  · cases h; exact sumStep_ok ⟨_, Tryz.func255, rfl⟩ step_any args s v hp nx lg ht hs
  · cases h; exact sumSortC_ok args s v hp nx lg ht hs
  · cases h; exact sumIds_ok args s v hp nx lg ht hs
  · cases h; exact sumUse_ok args s v hp nx lg ht hs
  · cases h; exact sumDel_ok args s v hp nx lg ht hs
  · cases h; exact sumIns_ok args s v hp nx lg ht hs
  · cases h
theorem fit_ng : ∀ (g : Nat) (fn : Func), Tryz.prog.funcs[g]? = some fn → (fn.name == "runtime.NumGoroutine") = false := by
  have h : Tryz.prog.funcs.toList.all (fun fn => !(fn.name == "runtime.NumGoroutine")) = true := by kernel_rfl
  intro g fn hf
  rw [List.all_eq_true] at h
  have := h fn (by obtain ⟨hg, rfl⟩ := Array.getElem?_eq_some_iff.1 hf; simp)
  simpa using this
theorem fit_mixed : Tryz.prog.follows .mixedOrders = true := by kernel_rfl
theorem fitB : Fit Tryz.prog sgB := ⟨fit_ng, fit_mixed, sgB_ok⟩
end Go.Sx
