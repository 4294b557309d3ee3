/-
  Parts of the executor Sx over the model's code (any program), or of this seat's walks: words and proofs that the row's text uses.
-/
import Derived.Test.YtfceckiklfkjkaaGreatASh
import Derived.Test.YtfceckiklfkjkaaGreatH1
import Derived.Test.YtfceckiklfkjkaaGreatSxY
import Derived.Sort.OwnSortedInts
namespace Go.Sx
open Go.Proofs Go.RowKit Go.Maps Go.Sort Go.Shelf
set_option maxRecDepth 100000
/-! ### the sorted keys of a map: f50 -/
def srt (l : List Int) : List Int := l.mergeSort fun x y => decide (x ≤ y)
theorem srt_len (l : List Int) : (srt l).length = l.length := by simp [srt]
theorem srt_perm {l m : List Int} (h : l.Perm m) : srt l = srt m := mergeSort_of_perm_i h
abbrev Rany : Value → Option (DataW Unit × List MemPlace) := fun _ => some (.nil, [])
theorem EsR.keys {ρ : Rho} : ∀ {l : List (Int × Int)} {es : List MapEntry}, EsR ρ (toEs none l) es → es.map (·.key) = l.map fun p => Value.int .i64 p.1
  | [], es, h => by cases h; rfl
  | (k, v) :: l, es, ⟨e, es', h1, h2, h3, h4⟩ => by
    subst h4
    rw [List.map_cons, List.map_cons, EsR.keys h3, show e.key = Value.int .i64 (k, v).1 from h1]
theorem mapI_owns {w : World} {mb : Nat} {l : List (Int × Int)} {ents : Array MapEntry} {clock : Nat} {ρ : Rho} (h : w.heap[mb]? = some (.map ents clock)) (hes : EsR ρ (toEs none l) ents.toList) (hst : MapKept.Stamped ents clock)
    (hwf : ∀ p ∈ l, (Lit.int .i64 p.1).wf = true) (hlen : l.length ≤ 1000000) : ∃ D0 : DataW Unit, w.ownsMap Tryz.prog 3 Rany mb l.length D0 ∧ (intKeys D0).Perm (l.map (·.1)) ∧ Maps.size D0 = l.length := by
  have hk := hes.keys
  have hsz : ents.toList.length = l.length := by
    have := congrArg List.length hk
    simpa using this
  have hrd : ∀ x ∈ ents.toList, ∃ n : Int, x.key = .int .i64 n ∧ WideElems.rd Tryz.prog 3 Rany x = some (.int .i64 n, .nil) := fun x hx => by
    have h1 : x.key ∈ ents.toList.map (·.key) := List.mem_map_of_mem hx
    rw [hk] at h1
    obtain ⟨p, hp, he⟩ := List.mem_map.1 h1
    refine ⟨p.1, he.symm, ?_⟩
    have hkey : keyOf Tryz.prog 3 x.key = some (.int .i64 p.1) := by
      rw [← he]
      exact keyOf_int_mk Tryz.underlying3 (hwf p hp)
    unfold WideElems.rd
    rw [hkey]; rfl
  have hmx : l.length ≤ maxLen := Nat.le_trans hlen (by decide)
  refine ⟨_, ⟨ents, clock, h, ⟨by rw [← Array.length_toList, hsz]; exact hmx, hst, fun x hx => by obtain ⟨n, _, h2⟩ := hrd x hx; exact ⟨_, h2⟩⟩, by rw [← Array.length_toList, hsz]; exact Nat.le_refl _, rfl⟩, ?_, ?_⟩
  · show ((ents.toList.map (WideElems.rg Tryz.prog 3 Rany)).foldr DataW.insert []).map (fun p => intOf p.1) |>.Perm _
    refine ((WideShapes.sorted_perm _).map _).trans ?_
    rw [List.map_map]
    have e : ents.toList.map ((fun p : Lit × DataW Unit => intOf p.1) ∘ WideElems.rg Tryz.prog 3 Rany) = l.map (·.1) := by
      have h2 : ents.toList.map ((fun p : Lit × DataW Unit => intOf p.1) ∘ WideElems.rg Tryz.prog 3 Rany) = (ents.toList.map (·.key)).map fun v => match v with | .int _ n => n | _ => 0 := by
        rw [List.map_map]
        refine List.map_congr_left fun x hx => ?_
        obtain ⟨n, h1, h2⟩ := hrd x hx
        simp only [Function.comp, WideElems.rg_of h2, h1]
        rfl
      rw [h2, hk, List.map_map]
      rfl
    rw [e]
  · show ((ents.toList.map (WideElems.rg Tryz.prog 3 Rany)).foldr DataW.insert []).length = l.length
    rw [(WideShapes.sorted_perm _).length_eq, List.length_map, hsz]
theorem collect_some {w : World} {bx mb N : Nat} {ks : List Int} {D0 : DataW Unit} (hc : w.cell? ⟨bx, 0, none⟩ = some (.map (some mb))) (hown : w.ownsMap Tryz.prog 3 Rany mb N D0) (hp : (intKeys D0).Perm ks) (hsz : Maps.size D0 = ks.length) (hlen : ks.length ≤ 1000000) (hne : ks ≠ []) :
    Calls Tryz.prog 186 #[.func (.func 188) #[] #[.pointer (some ⟨bx, 0, none⟩)]] w fun e w' => ∃ (g cap : Nat) (cur : Array Value) (ss : List Int), e = .returned (.slice (some ⟨g, 0, none⟩) ss.length cap) ∧ ss.Perm ks ∧ w.heap.size ≤ g ∧ w'.heap[g]? = some (.cells cur 3 (0, 0)) ∧ ss.length ≤ cap ∧ cap ≤ maxLen ∧ cur.size = cap * 1 ∧ cur.toList.take ss.length = ss.map (Value.int .i64) ∧ Below w.heap.size w w' := by
  refine (callsIn_wide (n := 6)).1 ?_
  have hbx : bx < w.heap.size := by
    unfold World.cell? at hc
    split at hc <;> try (cases hc; done)
    rename_i h
    exact (Array.getElem?_eq_some_iff.1 h).1
  have hseq := Ky.keys_gives Fence.wide 4 trivial rfl (by omega) bx mb N _ w hbx hc hown
  refine (Ky.collect_in Fence.wide 6 trivial trivial rfl (by omega) 188 #[.pointer (some ⟨bx, 0, none⟩)] trivial (enters_of Tryz.func188 (by kernel_rfl) rfl) _ _ (by rw [hsz]; exact Nat.le_trans hlen (by decide)) (by rw [hsz]; omega) w hseq).mono ?_
  rintro e w' ⟨v, ss, rfl, hS, hrow, hn, hb⟩
  have hpm : ss.Perm ks := List.Perm.trans hS hp
  have hss : ss ≠ [] := fun e => hne (List.perm_nil.1 (e ▸ hpm).symm)
  rcases hrow.2 with ⟨h0, _⟩ | ⟨g, cap, cur, rfl, hg, hcur, h1, h2, h3, h4⟩
  · exact absurd (hn.1 h0) hss
  · exact ⟨g, cap, cur, ss, rfl, hpm, hg, hcur, h1, h2, h3, by rw [Nat.mul_one] at h4; exact h4, hb⟩
set_option maxHeartbeats 4000000 in
theorem sorted_some {w : World} {bx mb N : Nat} {ks : List Int} {D0 : DataW Unit} (hc : w.cell? ⟨bx, 0, none⟩ = some (.map (some mb))) (hown : w.ownsMap Tryz.prog 3 Rany mb N D0) (hp : (intKeys D0).Perm ks) (hsz : Maps.size D0 = ks.length) (hlen : ks.length ≤ 1000000) (hne : ks ≠ []) :
    Calls Tryz.prog 121 #[.func (.func 188) #[] #[.pointer (some ⟨bx, 0, none⟩)]] w fun e w' => ∃ (g cap : Nat) (cur : Array Value), e = .returned (.slice (some ⟨g, 0, none⟩) ks.length cap) ∧ w.heap.size ≤ g ∧ w'.heap[g]? = some (.cells cur 3 (0, 0)) ∧ ks.length ≤ cap ∧ cap ≤ maxLen ∧ cur.size = cap * 1 ∧ cur.toList.take ks.length = (srt ks).map (Value.int .i64) ∧ Below w.heap.size w w' := by
  have hcol := collect_some hc hown hp hsz hlen hne
  go_enter Tryz.func121, Tryz.ntmps121
  go_wp2_with (first
    | (go_at_call 186; refine hcol.mono ?_; rintro e w1 ⟨g, cap, cur, ss, rfl, hpm, hg, hcur, h1, h2, h3, h4, hb⟩)
    | (go_at_call 187; refine (Tryz.slices_Sort_int g 0 cap ss _ (holds_of_blockI hcur h4) (Array.getElem?_eq_some_iff.1 hcur).1 (by rw [hpm.length_eq]; omega)).mono ?_; rintro e w2 ⟨rfl, nn, os, rfl⟩))
  go_ret
  have hl' := hpm.length_eq
  have hl2 : (srt ss).length = ss.length := srt_len ss
  have hsz2 : cur.size = cap := by omega
  have hgb := grownBy_sortedI (w := w1) (g := g) (n := nn) (os := os) (srt ss).toArray
  refine ⟨g, cap, putCells (Value.int .i64) 0 (srt ss).toArray cur, by rw [← hl']; rfl, hg, heap_sortedI _ hcur, by omega, h2, by simpa [putCells] using h3, ?_, ⟨hgb.os.trans hb.os, hgb.tape.trans hb.tape, hgb.output.trans hb.output, Nat.le_trans hb.size hgb.size, fun k hk => ?_⟩⟩
  · rw [← srt_perm hpm, ← hl', ← hl2]
    exact take_putCellsI cur (srt ss) (by omega)
  · have hk1 : k < w1.heap.size := Nat.lt_of_lt_of_le hk hb.size
    exact (hgb.block k hk1 (fun e => by cases e; omega)).trans (hb.block k hk)
noncomputable def sumSorted : SumA := fun args hp nx =>
  match args with
  | [.one (.c (.fn 188 [] [(bx, 0)]))] => match getRow hp.get bx with
    | some (_, _, _, .cells [.map nm]) => match hp.get nm with
      | some (.mapI none l) => T.set depth hp nx (some (.row 3 false (some 1) (.ints .i64 (srt (l.map (·.1))) l.length))) fun hp => some (.one (.c (.slu nx 1 0 l.length)), hp, nx + 1, [], [l ≠ [], l.length ≤ 1000000, ∀ p ∈ l, (Lit.int .i64 p.1).wf = true])
      | _ => none
    | _ => none
  | _ => none
theorem sumSorted_ok : SumAOK Tryz.prog 121 sumSorted := by
  intro args s v hp nx lg ps ht h hps
  unfold sumSorted at h
  split at h <;> try (cases h; done)
  rename_i bx
  split at h <;> try (cases h; done)
  rename_i t ro o nm hrow
  split at h <;> try (cases h; done)
  rename_i l hmap
  obtain ⟨t', h, q⟩ := T.set_ok _ _ _ _ _ _ h
  simp only [Option.some.injEq, Prod.mk.injEq] at h
  obtain ⟨rfl, rfl, rfl, rfl, rfl⟩ := h
  obtain ⟨hne, hlen, hwf, _⟩ := hps
  refine CallInfo.upd (u := .new (.row 3 false (some 1) (.ints .i64 (srt (l.map (·.1))) l.length))) ht ⟨_, Tryz.func121, rfl⟩ (fun m hm => by cases hm) (fun i => by rw [q]; rfl) rfl rfl fun ρ w vs hr hf ha => ?_
  obtain ⟨V, vs1, hV, h3, rfl⟩ := ha
  cases h3
  obtain ⟨us, cs, h0, ⟨b, c, vs2, hb, h4, rfl⟩, rfl⟩ := hV
  cases h4; cases h0
  have h5 := getRow_some hrow
  obtain ⟨b', c', ob, e1, e2, e3⟩ := hr.ok _ _ h5
  rw [hb] at e1
  cases e1
  obtain ⟨vs, tail, fr, rfl, ⟨mv, _, ⟨mb, mc, m1, rfl⟩, rfl, rfl⟩, _, _⟩ := e3
  obtain ⟨mb', mc', om, g1, g2, g3⟩ := hr.ok _ _ hmap
  rw [m1] at g1
  cases g1
  obtain ⟨ents, clock, rfl, hes, hst⟩ := g3
  have hcell : w.cell? ⟨b, 0, none⟩ = some (.map (some mb)) := by simp [World.cell?, e2]
  obtain ⟨D0, hown, hpm, hsz⟩ := mapI_owns g2 hes hst hwf hlen
  have hll : (l.map (·.1)).length = l.length := by simp
  refine (sorted_some hcell hown hpm (by rw [hsz, hll]) (by rw [hll]; exact hlen) (by simpa using hne)).mono fun e w' ⟨g, cap, cur, q1, q2, q3, q4, q5, q6, q7, q8⟩ => ?_
  rw [hll] at q1 q4 q7
  have hsl : (srt (l.map (·.1))).length = l.length := by rw [srt_len, hll]
  refine ⟨_, _, q1, HRel.newCh (c := cap) hr hf q2 ⟨(srt (l.map (·.1))).map (Value.int .i64), cur.toList.drop l.length, (0, 0), ?_, ⟨hsl, rfl⟩, fun _ => rfl, ?_⟩ q3 (Below.chW q8 none) ⟨g, cap, 0, by simp [ext], by omega, .inl (by simp), by simp⟩⟩
  · rw [← q7, List.take_append_drop]
  · refine ⟨?_, Nat.le_trans q5 (by decide)⟩
    rw [← q7, List.take_append_drop]
    simpa using q6
end Go.Sx
