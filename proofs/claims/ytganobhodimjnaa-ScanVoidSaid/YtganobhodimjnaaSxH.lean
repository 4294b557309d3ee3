/-
  A part of the executor Sx over the model's code (any program): its words, or its proof; no seat's statement stands here.
-/
import Derived.Test.YtganobhodimjnaaSxG
namespace Go.Sx
variable {P : Program}

/-! ## Counting what is done -/
def cnt (f : Nat → Bool) : Nat → Nat
  | 0 => 0
  | n + 1 => cnt f n + (if f n = true then 1 else 0)

theorem cnt_le (f : Nat → Bool) : ∀ n, cnt f n ≤ n
  | 0 => Nat.le_refl _
  | n + 1 => by have := cnt_le f n; simp only [cnt]; split <;> omega

theorem cnt_all (f : Nat → Bool) : ∀ n, n ≤ cnt f n → ∀ i, i < n → f i = true
  | 0, _, i, h => by omega
  | n + 1, h, i, hi => by
    have h1 := cnt_le f n
    simp only [cnt] at h
    by_cases hn : f n = true
    · rw [if_pos hn] at h
      by_cases e : i = n
      · subst e; exact hn
      · exact cnt_all f n (by omega) i (by omega)
    · rw [if_neg hn] at h; omega

theorem cnt_congr {f g : Nat → Bool} : ∀ {n : Nat}, (∀ i, i < n → f i = g i) → cnt f n = cnt g n
  | 0, _ => rfl
  | n + 1, h => by simp only [cnt]; rw [cnt_congr fun i hi => h i (by omega), h n (by omega)]

theorem cnt_set {f g : Nat → Bool} {j : Nat} (hg : ∀ i, g i = if i = j then true else f i) : ∀ {n : Nat}, j < n → f j = false → cnt g n = cnt f n + 1
  | n + 1, h, h0 => by
    simp only [cnt]
    by_cases e : j = n
    · subst e
      rw [cnt_congr (g := f) fun i hi => by rw [hg, if_neg (by omega)], hg, if_pos rfl, h0]
      simp
    · have hne : ¬ (n = j) := fun h' => e h'.symm
      rw [cnt_set hg (by omega) h0, hg, if_neg hne]
      omega

/-! ## What the run in the text's order leaves -/
structure TextRun (P : Program) (n : Nat) (ops : Array Oper) (St : Nat → S) (nd : Nat → Need) : Prop where
  loc : ∀ i o, ops[i]? = some o → OpLoc P n ops o { St i with lg := [] } (nd i) (St (i + 1)) (St (i + 1)).lg

theorem drawGo_ok {β : Type} {z : Bool} {call : CallF β} (hcall : CallOK P call) (hng : ∀ (g : Nat) (fn : Func), P.funcs[g]? = some fn → (fn.name == "runtime.NumGoroutine") = false) {n : Nat} {ops : Array Oper} {r : β} :
    ∀ {rest : List Oper} {fps : List FP} {s : S} {k : List FP → S → Option β}, Top s → drawGo P z call n ops.toList rest fps s k = some r →
      ∃ (St : Nat → S) (nd : Nat → Need), St 0 = s ∧ (∀ i o, rest[i]? = some o → OpLoc P n ops o { St i with lg := [] } (nd i) (St (i + 1)) (St (i + 1)).lg) ∧
        k (fps ++ (List.range rest.length).map fun i => ⟨nd i, (St (i + 1)).lg, (St i).nx, (St (i + 1)).nx⟩) (St rest.length) = some r
  | [], fps, s, k, _, h => ⟨fun _ => s, fun _ => none, rfl, by simp, by simpa [drawGo] using h⟩
  | o :: rest, fps, s, k, ht, h => by
    simp only [drawGo] at h
    obtain ⟨nd0, s1, L, h1, hl⟩ := opRun_ok hcall hng (s := { s with lg := [] }) (by exact ht) h
    obtain ⟨St, nd, e0, h2, h3⟩ := drawGo_ok hcall hng hl.abs.top h1
    have hL : s1.lg = L := by rw [hl.abs.lg]; simp
    refine ⟨fun i => match i with | 0 => s | i + 1 => St i, fun i => match i with | 0 => nd0 | i + 1 => nd i, rfl, ?_, ?_⟩
    · intro i o' ho
      cases i with
      | zero =>
        simp at ho
        subst ho
        show OpLoc P n ops o { s with lg := [] } nd0 (St 0) (St 0).lg
        rw [e0, hL]
        exact hl
      | succ i =>
        exact h2 i o' (by simpa using ho)
    · simp only [List.length_cons]
      rw [List.range_succ_eq_map, List.map_cons, List.map_map]
      rw [List.append_assoc] at h3
      rw [e0]
      exact h3

/-! ## Which must come ahead -/
def edges (ops : Array Oper) (D : Nat → Prop) (j : Nat) : Prop := ∀ o, ops[j]? = some o → ∀ e ∈ o.after, Region.binds .any e = true → D e.on

theorem maskOf_ok {acc : List Nat} {D : Nat → Prop} (hacc : ∀ j i, D j → (acc.getD j 0).testBit i = true → D i) : ∀ {es : List Edge}, (∀ e ∈ es, Region.binds .any e = true → D e.on) →
    ∀ i, (maskOf acc es).testBit i = true → D i
  | [], _, i, h => by simp [maskOf] at h
  | e :: es, he, i, h => by
    simp only [maskOf] at h
    split at h
    · rename_i hb
      have hD := he e (by simp) hb
      have h' : ((2 ^ e.on ||| acc.getD e.on 0) ||| maskOf acc es).testBit i = true := h
      rw [Nat.testBit_or, Nat.testBit_or, Bool.or_eq_true, Bool.or_eq_true] at h'
      rcases h' with (h' | h') | h'
      · rw [Nat.testBit_two_pow] at h'
        have : e.on = i := by simpa using h'
        rw [← this]; exact hD
      · exact hacc _ _ hD h'
      · exact maskOf_ok hacc (fun e' h'' => he e' (List.mem_cons_of_mem _ h'')) i h'
    · exact maskOf_ok hacc (fun e' h'' => he e' (List.mem_cons_of_mem _ h'')) i h

theorem befs_len : ∀ (l : List Oper) (acc : List Nat), (befs l acc).length = acc.length + l.length
  | [], acc => by simp [befs]
  | o :: l, acc => by simp [befs, befs_len l]; omega

theorem befs_pre : ∀ (l : List Oper) (acc : List Nat) (j : Nat), j < acc.length → (befs l acc)[j]? = acc[j]?
  | [], acc, j, _ => rfl
  | o :: l, acc, j, h => by
    simp only [befs]
    rw [befs_pre l _ j (by simp; omega), List.getElem?_append_left h]

/-- what is closed under the edges is closed under the masks -/
theorem befs_ok {D : Nat → Prop} : ∀ (l : List Oper) (acc : List Nat), (∀ j i, D j → (acc.getD j 0).testBit i = true → D i) →
    (∀ j o, l[j]? = some o → D (acc.length + j) → ∀ e ∈ o.after, Region.binds .any e = true → D e.on) →
    (∀ j i, D j → ((befs l acc).getD j 0).testBit i = true → D i) ∧
    ∀ j o, l[j]? = some o → (∀ e ∈ o.after, Region.binds .any e = true → D e.on) → ∀ i, ((befs l acc).getD (acc.length + j) 0).testBit i = true → D i
  | [], acc, hacc, _ => ⟨hacc, by simp⟩
  | o :: l, acc, hacc, hl => by
    have hnew : ∀ i, (∀ e ∈ o.after, Region.binds .any e = true → D e.on) → (maskOf acc o.after.toList).testBit i = true → D i := fun i he h =>
      maskOf_ok hacc (fun e h' => he e (by simpa using h')) i h
    have hacc' : ∀ j i, D j → ((acc ++ [maskOf acc o.after.toList]).getD j 0).testBit i = true → D i := by
      intro j i hj h
      by_cases h1 : j < acc.length
      · rw [List.getD_eq_getElem?_getD, List.getElem?_append_left h1, ← List.getD_eq_getElem?_getD] at h
        exact hacc j i hj h
      · by_cases h2 : j = acc.length
        · subst h2
          simp at h
          exact hnew i (hl 0 o rfl (by simpa using hj)) h
        · rw [List.getD_eq_getElem?_getD, List.getElem?_eq_none (by simp; omega)] at h
          simp at h
    obtain ⟨g1, g2⟩ := befs_ok l (acc ++ [maskOf acc o.after.toList]) hacc' (fun j o' ho hD => hl (j + 1) o' (by simpa using ho) (by simpa [Nat.add_assoc, Nat.add_comm 1] using hD))
    refine ⟨g1, fun j o' ho he i h => ?_⟩
    cases j with
    | zero =>
      simp at ho
      subst ho
      simp only [befs, Nat.add_zero, List.getD_eq_getElem?_getD] at h
      rw [befs_pre _ _ _ (by simp)] at h
      simp at h
      exact hnew i he h
    | succ j =>
      have := g2 j o' (by simpa using ho) he i
      simp only [List.length_append, List.length_cons, List.length_nil] at this
      rw [show acc.length + (0 + 1) + j = acc.length + (j + 1) by omega] at this
      exact this h

/-! ## What the check says -/
structure PairOK (ops : List Oper) (oi oj : Oper) (fi fj : FP) : Prop where
  a1 : ∀ d, oi.dst = some d → d ∉ looks ops oj
  a2 : ∀ d, oj.dst = some d → d ∉ looks ops oi
  n1 : match fj.need with
    | none => fi.wr = [] ∧ fi.lo = fi.hi
    | some l => ∀ x ∈ l, x ∉ fi.wr ∧ ¬ (fi.lo ≤ x ∧ x < fi.hi)
  n2 : match fi.need with
    | none => ∀ x ∈ fj.wr, fi.lo ≤ x
    | some l => ∀ x ∈ l, x ∉ fj.wr
  w1 : ∀ x ∈ fi.wr, x ∉ fj.wr
  w2 : ∀ x ∈ fj.wr, ¬ (fi.lo ≤ x ∧ x < fi.hi)

theorem notIn_ok {l : List Nat} {x : Nat} (h : notIn l x = true) : x ∉ l := by
  simp [notIn] at h; exact h

theorem range_ok {lo hi x : Nat} (h : (!(Nat.ble lo x && Nat.blt x hi)) = true) : ¬ (lo ≤ x ∧ x < hi) := by
  intro ⟨h1, h2⟩
  have e1 : Nat.ble lo x = true := Nat.ble_eq_true_of_le h1
  have e2 : Nat.blt x hi = true := Nat.ble_eq_true_of_le h2
  rw [e1, e2] at h
  simp at h

theorem pair_ok {ops : List Oper} {oi oj : Oper} {fi fj : FP} (h1 : apart ops oi oj = true) (h2 : indep fi fj = true) : PairOK ops oi oj fi fj := by
  unfold apart at h1
  rw [Bool.and_eq_true] at h1
  unfold indep at h2
  simp only [Bool.and_eq_true] at h2
  obtain ⟨⟨⟨i1, i2⟩, i3⟩, i4⟩ := h2
  refine ⟨?_, ?_, ?_, ?_, ?_, ?_⟩
  · intro d hd
    have := h1.1
    rw [hd] at this
    exact notIn_ok this
  · intro d hd
    have := h1.2
    rw [hd] at this
    exact notIn_ok this
  · split
    · rename_i hn
      rw [hn] at i1
      simp only [Bool.and_eq_true, List.isEmpty_iff] at i1
      exact ⟨i1.1, Nat.eq_of_beq_eq_true i1.2⟩
    · rename_i l hn
      rw [hn] at i1
      intro x hx
      have := List.all_eq_true.1 i1 x hx
      rw [Bool.and_eq_true] at this
      exact ⟨notIn_ok this.1, range_ok this.2⟩
  · split
    · rename_i hn
      rw [hn] at i2
      intro x hx
      exact Nat.le_of_ble_eq_true (List.all_eq_true.1 i2 x hx)
    · rename_i l hn
      rw [hn] at i2
      intro x hx
      exact notIn_ok (List.all_eq_true.1 i2 x hx)
  · intro x hx
    exact notIn_ok (List.all_eq_true.1 i3 x hx)
  · intro x hx
    exact range_ok (List.all_eq_true.1 i4 x hx)

theorem pairs1_ok {ops : List Oper} {m : Nat} {oj : Oper} {fj : FP} : ∀ {os : List Oper} {fs : List FP} {b : Nat}, pairs1 ops m oj fj os fs b = true →
    ∀ i oi fi, os[i]? = some oi → fs[i]? = some fi → m.testBit (b + i) = true ∨ PairOK ops oi oj fi fj
  | [], _, _, _, i, _, _, h, _ => by simp at h
  | _ :: _, [], _, _, i, _, _, _, h => by simp at h
  | o :: os, f :: fs, b, h, i, oi, fi, ho, hf => by
    simp only [pairs1, Bool.and_eq_true, Bool.or_eq_true] at h
    cases i with
    | zero =>
      simp at ho hf
      subst ho hf
      rcases h.1 with h | h
      · exact .inl h
      · exact .inr (pair_ok h.1 h.2)
    | succ i =>
      have := pairs1_ok h.2 i oi fi (by simpa using ho) (by simpa using hf)
      rwa [show b + 1 + i = b + (i + 1) by omega] at this

theorem pairsAll_ok {ops : List Oper} : ∀ {os : List Oper} {ms : List Nat} {fs : List FP} {pre : List Oper} {pfs : List FP}, pairsAll ops os ms fs pre pfs = true → pre.length = pfs.length →
    ∀ j oj m fj, os[j]? = some oj → ms[j]? = some m → fs[j]? = some fj → ∀ i oi fi, i < pre.length + j → (pre ++ os)[i]? = some oi → (pfs ++ fs)[i]? = some fi → m.testBit i = true ∨ PairOK ops oi oj fi fj
  | [], _, _, _, _, _, _ => fun j _ _ _ h => by simp at h
  | _ :: _, [], _, _, _, _, _ => fun j _ _ _ _ h => by simp at h
  | _ :: _, _ :: _, [], _, _, _, _ => fun j _ _ _ _ _ h => by simp at h
  | o :: os, m0 :: ms, f :: fs, pre, pfs, h, hl => by
    intro j oj m fj ho hm hf i oi fi hi hoi hfi
    simp only [pairsAll, Bool.and_eq_true] at h
    cases j with
    | zero =>
      simp at ho hm hf
      subst ho hm hf
      have h1 : i < pre.length := by omega
      rw [List.getElem?_append_left h1] at hoi
      rw [List.getElem?_append_left (by omega)] at hfi
      have := pairs1_ok h.1 i oi fi hoi hfi
      rwa [Nat.zero_add] at this
    | succ j =>
      refine pairsAll_ok h.2 (by simp [hl]) j oj m fj (by simpa using ho) (by simpa using hm) (by simpa using hf) i oi fi (by simp; omega) ?_ ?_
      · simpa using hoi
      · simpa using hfi

/-- edges run back -/
theorem noRing_ok {ops : List Oper} : ∀ {os : List Oper} {b : Nat}, noRing ops os b = true → ∀ i o, os[i]? = some o → (∀ e ∈ o.after, Region.binds .any e = true → e.on < b + i)
  | [], _, _ => fun i _ h => by simp at h
  | o :: os, b, h => by
    intro i o' ho e he hb
    simp only [noRing, Bool.and_eq_true] at h
    cases i with
    | zero =>
      simp at ho
      subst ho
      have := List.all_eq_true.1 h.1.1.1 e (by simpa using he)
      rw [hb] at this
      simpa using this
    | succ i =>
      have := noRing_ok h.2 i o' (by simpa using ho) e he hb
      omega

end Go.Sx
