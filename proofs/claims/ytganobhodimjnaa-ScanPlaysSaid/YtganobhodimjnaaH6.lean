/-
  Parts of the executor Sx over the model's code (any program), or of this seat's walks: words and proofs that the row's text uses.
-/
import Derived.Test.YtganobhodimjnaaH1
namespace Go.Sx
open Go.Proofs Go.RowKit
set_option maxRecDepth 100000
/-! ### what the first phase leaves, sector by sector -/
noncomputable abbrev bk (L : List Int) (s : Int) : List Int := blkAt L (s.toNat * 64)
noncomputable def wrB (k : Int) (p B : List Int) : List Int := if isB k B && (t54 B == p) then B else nextB k B p
theorem wrB_is {k : Int} {p B : List Int} (hk : mayK k = true) (hp : p.length = 54) : isB k (wrB k p B) = true ∧ t54 (wrB k p B) = p := by
  unfold wrB
  split
  · rename_i h
    simp only [Bool.and_eq_true, beq_iff_eq] at h
    exact h
  · obtain ⟨h1, h2⟩ := next_get (b := B) hk hp
    have hi : isB k (nextB k B p) = true := by rw [← getE_is hk, h1]; rfl
    refine ⟨hi, ?_⟩
    unfold getP at h2
    rw [if_pos hi] at h2
    exact h2
section
variable (a b c sc : Int)
noncomputable def fnS (s : Int) (B : List Int) : List Int :=
  if s < 2 then wrB 1 (sup a b c) B
  else if inS a sc (pl a b c s).2.1 = true then
    (if (pl a b c s).1 = 2 then wrB 2 (headB (pl a b c s).2.1) B
     else if (pl a b c s).1 = 0 then B
     else if isB (pl a b c s).1 B = true then B else nextB (pl a b c s).1 B z54)
  else B
def quS (s : Int) (B : List Int) : Prop :=
  if s < 2 then isB 1 B = true ∧ t54 B = sup a b c
  else inS a sc (pl a b c s).2.1 = true →
    (if (pl a b c s).1 = 2 then isB 2 B = true ∧ t54 B = headB (pl a b c s).2.1
     else if (pl a b c s).1 = 0 then True else isB (pl a b c s).1 B = true)
structure InvS (m : Nat) (st0 : St) (X : Int) (st : St) : Prop where
  len : st.1.length = 64 * m
  blk : ∀ s : Int, 0 ≤ s → s < m → bk st.1 s = if s < X then fnS a b c sc s (bk st0.1 s) else bk st0.1 s
  out : st.2.2 = st0.2.2
  map : (∀ s : Int, 0 ≤ s → s < X → quS a b c sc s (Sx.bk st0.1 s)) → st.2.1 = st0.2.1
end
section
variable {a b c sc : Int} {m : Nat} {st0 st : St} {X : Int}
theorem InvS.skip (h : InvS a b c sc m st0 X st) {Y : Int} (hxy : X ≤ Y) (hf : ∀ s, X ≤ s → s < Y → s < m → ∀ B, fnS a b c sc s B = B) : InvS a b c sc m st0 Y st where
  len := h.len
  blk := fun s h0 h1 => by
    rw [h.blk s h0 h1]
    by_cases hx : s < X
    · rw [if_pos hx, if_pos (by omega)]
    · rw [if_neg hx]
      by_cases hy : s < Y
      · rw [if_pos hy, hf s (by omega) hy h1]
      · rw [if_neg hy]
  out := h.out
  map := fun hq => h.map fun s h0 h1 => hq s h0 (by omega)
theorem InvS.wr (h : InvS a b c sc m st0 X st) (h0 : 0 ≤ X) (hm : X < m) {k : Int} {p : List Int} (hk : mayK k = true) (hp : p.length = 54) (hin : X < 2 ∨ inS a sc (pl a b c X).2.1 = true)
    (hf : fnS a b c sc X (bk st0.1 X) = wrB k p (bk st0.1 X)) (hq : quS a b c sc X (bk st0.1 X) → isB k (bk st0.1 X) = true ∧ t54 (bk st0.1 X) = p) : InvS a b c sc m st0 (X + 1) (wr1 a b c m sc st X k p) := by
  have hs : hasS m X = true := hasS_iff.2 ⟨h0, hm⟩
  have hB : bk st.1 X = bk st0.1 X := by rw [h.blk X h0 hm, if_neg (by omega)]
  have hok : ldOk st.1 m X k = isB k (bk st0.1 X) := by
    unfold ldOk; rw [hs, Bool.true_and]
    show (getE k (bk st.1 X) == 0) = _
    rw [hB, getE_is hk]
  have hld : isB k (bk st0.1 X) = true → ldP st.1 m X k = t54 (bk st0.1 X) := fun hi => by
    unfold ldP; rw [hs, if_pos rfl]
    show getP k (bk st.1 X) = _
    rw [hB]; unfold getP; rw [if_pos hi]
  by_cases hc : isB k (bk st0.1 X) = true ∧ t54 (bk st0.1 X) = p
  · have e : wr1 a b c m sc st X k p = st := by
      show (wrEnd a b c m sc st.2.2 st.1 st.2.1 X k p).2 = st
      unfold wrEnd
      rw [hs, if_pos rfl, hok, hc.1, hld hc.1, hc.2]
      simp
    rw [e]
    have hw : fnS a b c sc X (bk st0.1 X) = bk st0.1 X := by
      rw [hf]; unfold wrB; rw [if_pos (by simp [hc.1, hc.2])]
    refine ⟨h.len, fun s s0 s1 => ?_, h.out, fun hq' => h.map fun s s0 s1 => hq' s s0 (by omega)⟩
    rw [h.blk s s0 s1]
    by_cases hx : s < X
    · rw [if_pos hx, if_pos (by omega)]
    · rw [if_neg hx]
      by_cases hy : s = X
      · subst hy; rw [if_pos (by omega), hw]
      · rw [if_neg (by omega)]
  · have hcb : (ldOk st.1 m X k && (ldP st.1 m X k == p)) = false := by
      rw [hok]
      cases hi : isB k (bk st0.1 X) with
      | false => rfl
      | true =>
        rw [hld hi, Bool.true_and]
        simp
        exact fun e => hc ⟨hi, e⟩
    have hio : (decide (X ≥ 2) && !inS a sc (pl a b c X).2.1) = false := by
      rcases hin with hin | hin
      · have : decide (X ≥ 2) = false := by simp; omega
        rw [this]; rfl
      · rw [hin]; simp
    have e : wr1 a b c m sc st X k p = (over st.1 (X.toNat * 64) (nextB k (bk st0.1 X) p), putI st.2.1 X 1, st.2.2) := by
      show (wrEnd a b c m sc st.2.2 st.1 st.2.1 X k p).2 = _
      unfold wrEnd
      rw [hs, if_pos rfl, hcb, putE_may.2 hk, hio, ← hB]
      rfl
    have hw : fnS a b c sc X (bk st0.1 X) = nextB k (bk st0.1 X) p := by
      rw [hf]; unfold wrB; rw [if_neg (by simpa using hc)]
    rw [e]
    have hl := h.len
    refine ⟨?_, fun s s0 s1 => ?_, h.out, fun hq' => absurd (hq (hq' X h0 (by omega))) hc⟩
    · show (over st.1 _ _).length = _
      rw [over_len (by rw [nextB_len hp]; omega)]; exact hl
    · show blkAt (over st.1 (X.toNat * 64) (nextB k (bk st0.1 X) p)) (s.toNat * 64) = _
      by_cases hy : s = X
      · subst hy
        rw [over_at_same (nextB_len hp) (by omega), if_pos (by omega), hw]
      · rw [over_at_other (nextB_len hp) (by omega) (by omega)]
        have := h.blk s s0 s1
        rw [show blkAt st.1 (s.toNat * 64) = bk st.1 s from rfl, this]
        by_cases hx : s < X
        · rw [if_pos hx, if_pos (by omega)]
        · rw [if_neg hx, if_neg (by omega)]
theorem InvS.sec (h : InvS a b c sc m st0 X st) (h0 : 2 ≤ X) (hm : X < m) (hk : (pl a b c X).1 = 3 ∨ (pl a b c X).1 = 4) (hin : inS a sc (pl a b c X).2.1 = true) : InvS a b c sc m st0 (X + 1) (sec1 a b c m sc st X) := by
  have hs : hasS m X = true := hasS_iff.2 ⟨by omega, hm⟩
  have hmay : mayK (pl a b c X).1 = true := by rcases hk with e | e <;> rw [e] <;> rfl
  have hB : bk st.1 X = bk st0.1 X := by rw [h.blk X (by omega) hm, if_neg (by omega)]
  have hok : ldOk st.1 m X (pl a b c X).1 = isB (pl a b c X).1 (bk st0.1 X) := by
    unfold ldOk; rw [hs, Bool.true_and]
    show (getE _ (bk st.1 X) == 0) = _
    rw [hB, getE_is hmay]
  have hfin : ∀ B, fnS a b c sc X B = if isB (pl a b c X).1 B = true then B else nextB (pl a b c X).1 B z54 := fun B => by
    unfold fnS
    rw [if_neg (by omega), if_pos hin, if_neg (by omega), if_neg (by omega)]
  unfold sec1
  rw [hok]
  cases hi : isB (pl a b c X).1 (bk st0.1 X) with
  | true =>
    rw [if_pos rfl]
    refine ⟨h.len, fun s s0 s1 => ?_, h.out, fun hq' => h.map fun s s0 s1 => hq' s s0 (by omega)⟩
    rw [h.blk s s0 s1]
    by_cases hx : s < X
    · rw [if_pos hx, if_pos (by omega)]
    · rw [if_neg hx]
      by_cases hy : s = X
      · subst hy; rw [if_pos (by omega), hfin, if_pos hi]
      · rw [if_neg (by omega)]
  | false =>
    rw [if_neg (by simp)]
    refine h.wr (by omega) hm hmay rfl (.inr hin) ?_ fun hq => ?_
    · rw [hfin, hi, if_neg (by simp)]
      unfold wrB
      rw [hi, Bool.false_and, if_neg (by simp)]
    · unfold quS at hq
      rw [if_neg (by omega)] at hq
      have := hq hin
      rw [if_neg (by omega), if_neg (by omega), hi] at this
      cases this
/-- the sectors of a group -/
theorem pl_at (hg : geoB a b c = true) {g j : Int} (h0 : 0 ≤ g) (h1 : g < a) (j0 : 0 ≤ j) (j1 : j < 2 + b + c) :
    pl a b c (2 + g * (2 + b + c) + j) = if j = 0 then (2, g, 0, 0) else if j = 1 then (3, g, 0, 0) else if j < 2 + b then (4, g, j - 2, 0) else (0, g, j - 2 - b, 0) := by
  obtain ⟨g1, g2, g3, g4, g5, g6⟩ := geoB_iff.1 hg
  have m0 : 0 ≤ g * (2 + b + c) := Int.mul_nonneg h0 (by omega)
  have m1 : (g + 1) * (2 + b + c) ≤ a * (2 + b + c) := Int.mul_le_mul_of_nonneg_right (by omega) (by omega)
  have m2 : (g + 1) * (2 + b + c) = g * (2 + b + c) + (2 + b + c) := by rw [Int.add_mul, Int.one_mul]
  have e : 2 + g * (2 + b + c) + j - 2 = j + (2 + b + c) * g := by rw [Int.mul_comm]; omega
  have hmod : (2 + g * (2 + b + c) + j - 2) % (2 + b + c) = j := by
    rw [e, Int.add_mul_emod_self_left]; exact Int.emod_eq_of_lt j0 j1
  have hdiv : (2 + g * (2 + b + c) + j - 2) / (2 + b + c) = g := by
    rw [e, Int.add_mul_ediv_left _ _ (by omega), Int.ediv_eq_zero_of_lt j0 j1, Int.zero_add]
  unfold pl
  rw [if_pos ⟨hg, by omega, by omega⟩, if_neg (by omega), hmod, hdiv]
theorem InvS.secs (hg : geoB a b c = true) {g : Int} (h0 : 0 ≤ g) (h1 : g < a) (hm : (m : Int) = 2 + a * (2 + b + c)) (hin : inS a sc g = true) : ∀ (n : Nat) (j : Int) (st : St), 1 ≤ j → j + n = 2 + b → InvS a b c sc m st0 (2 + g * (2 + b + c) + j) st →
    InvS a b c sc m st0 (2 + g * (2 + b + c) + (2 + b)) (secs a b c m sc n st (2 + g * (2 + b + c) + j))
  | 0, j, st, hj, hn, h => by
    rw [Sx.secs]
    have : j = 2 + b := by simpa using hn
    subst this; exact h
  | n + 1, j, st, hj, hn, h => by
    obtain ⟨g1, g2, g3, g4, g5, g6⟩ := geoB_iff.1 hg
    have m0 : 0 ≤ g * (2 + b + c) := Int.mul_nonneg h0 (by omega)
    have m1 : (g + 1) * (2 + b + c) ≤ a * (2 + b + c) := Int.mul_le_mul_of_nonneg_right (by omega) (by omega)
    have m2 : (g + 1) * (2 + b + c) = g * (2 + b + c) + (2 + b + c) := by rw [Int.add_mul, Int.one_mul]
    push_cast at hn
    have hp := pl_at hg h0 h1 (j := j) (by omega) (by omega)
    rw [if_neg (by omega)] at hp
    rw [Sx.secs]
    have hs := h.sec (by omega) (by omega) (by
      rw [hp]
      split
      · exact .inl rfl
      · rw [if_pos (by omega)]; exact .inr rfl) (by
      rw [hp]
      split
      · exact hin
      · rw [if_pos (by omega)]; exact hin)
    have := InvS.secs hg h0 h1 hm hin n (j + 1) _ (by omega) (by omega) (by rw [← Int.add_assoc]; exact hs)
    rw [show 2 + g * (2 + b + c) + (j + 1) = 2 + g * (2 + b + c) + j + 1 by omega] at this
    exact this
theorem inS_range {g : Int} (h : inS a sc g = true) : 0 ≤ g ∧ g < a := by
  unfold inS at h
  simp only [Bool.and_eq_true, decide_eq_true_eq] at h
  omega
theorem InvS.grp (hg : geoB a b c = true) {g : Int} (h0 : 0 ≤ g) (h1 : g < a) (hm : (m : Int) = 2 + a * (2 + b + c)) (h : InvS a b c sc m st0 (2 + g * (2 + b + c)) st) : InvS a b c sc m st0 (2 + (g + 1) * (2 + b + c)) (grp1 a b c m sc st g) := by
  obtain ⟨g1, g2, g3, g4, g5, g6⟩ := geoB_iff.1 hg
  have m0 : 0 ≤ g * (2 + b + c) := Int.mul_nonneg h0 (by omega)
  have m1 : (g + 1) * (2 + b + c) ≤ a * (2 + b + c) := Int.mul_le_mul_of_nonneg_right (by omega) (by omega)
  have m2 : (g + 1) * (2 + b + c) = g * (2 + b + c) + (2 + b + c) := by rw [Int.add_mul, Int.one_mul]
  -- each sector of it
  have hpl : ∀ s, 2 + g * (2 + b + c) ≤ s → s < 2 + (g + 1) * (2 + b + c) → ∃ j, 0 ≤ j ∧ j < 2 + b + c ∧ s = 2 + g * (2 + b + c) + j := fun s s0 s1 => ⟨s - (2 + g * (2 + b + c)), by omega, by omega, by omega⟩
  have hgp : ∀ s, 2 + g * (2 + b + c) ≤ s → s < 2 + (g + 1) * (2 + b + c) → (pl a b c s).2.1 = g := fun s s0 s1 => by
    obtain ⟨j, j0, j1, rfl⟩ := hpl s s0 s1
    rw [pl_at hg h0 h1 j0 j1]
    split
    · rfl
    · split
      · rfl
      · split <;> rfl
  unfold grp1
  cases hin : inS a sc g with
  | false =>
    rw [if_neg (by simp)]
    refine h.skip (by omega) fun s s0 s1 _ B => ?_
    unfold fnS
    rw [if_neg (by omega), hgp s s0 s1, hin, if_neg (by simp)]
  | true =>
    rw [if_pos rfl]
    have hfst : fstS a b c g = 2 + g * (2 + b + c) := by
      unfold fstS
      rw [if_pos (by unfold fstB; rw [hg]; simp; omega)]
    unfold Sx.grp
    rw [hfst]
    have p0 := pl_at hg h0 h1 (j := 0) (by omega) (by omega)
    rw [if_pos rfl, Int.add_zero] at p0
    have hhead := h.wr (by omega) (by omega) (k := 2) (p := headB g) rfl headB_len (.inr (by rw [p0]; exact hin)) (by
      unfold fnS
      rw [if_neg (by omega), p0]
      simp only
      rw [if_pos hin, if_pos trivial]) (fun hq => by
      unfold quS at hq
      rw [if_neg (by omega), p0] at hq
      have := hq hin
      rw [if_pos rfl] at this
      exact this)
    have hs := InvS.secs hg h0 h1 hm hin (b + 1).toNat 1 _ (by omega) (by omega) hhead
    refine hs.skip (by omega) fun s s0 s1 _ B => ?_
    obtain ⟨j, j0, j1, rfl⟩ := hpl s (by omega) s1
    have hj : 2 + b ≤ j := by omega
    have hp := pl_at hg h0 h1 j0 j1
    rw [if_neg (by omega), if_neg (by omega), if_neg (by omega)] at hp
    unfold fnS
    rw [if_neg (by omega), hp]
    simp
theorem InvS.grps (hg : geoB a b c = true) (hm : (m : Int) = 2 + a * (2 + b + c)) : ∀ (n : Nat) (g : Int) (st : St), 0 ≤ g → g + n = a → InvS a b c sc m st0 (2 + g * (2 + b + c)) st → InvS a b c sc m st0 m (grps a b c m sc n st g)
  | 0, g, st, h0, hn, h => by
    rw [Sx.grps, hm]
    have : g = a := by simpa using hn
    subst this; exact h
  | n + 1, g, st, h0, hn, h => by
    rw [Sx.grps]
    push_cast at hn
    exact InvS.grps hg hm n (g + 1) _ (by omega) (by omega) (h.grp hg h0 (by omega) hm)
theorem runS_inv (hg : geoB a b c = true) (hm : (m : Int) = 2 + a * (2 + b + c)) (hl : st0.1.length = 64 * m) : InvS a b c sc m st0 m (runS a b c m sc st0) := by
  obtain ⟨g1, g2, g3, g4, g5, g6⟩ := geoB_iff.1 hg
  have hb := mul_bd hg
  have h0 : InvS a b c sc m st0 0 st0 := ⟨hl, fun s s0 _ => by rw [if_neg (by omega)], rfl, fun _ => rfl⟩
  have w : ∀ {X : Int} {st : St}, 0 ≤ X → X < 2 → InvS a b c sc m st0 X st → InvS a b c sc m st0 (X + 1) (wr1 a b c m sc st X 1 (sup a b c)) := fun x0 x1 h =>
    h.wr x0 (by omega) rfl supL_len (.inl x1) (by unfold fnS; rw [if_pos x1]) (fun hq => by unfold quS at hq; rw [if_pos x1] at hq; exact hq)
  have h2 : InvS a b c sc m st0 2 (sup2 a b c m sc st0) := w (by omega) (by omega) (w (by omega) (by omega) h0)
  exact InvS.grps hg hm a.toNat 0 _ (by omega) (by omega) (by rw [Int.zero_mul, Int.add_zero]; exact h2)
end
#print axioms runS_inv
end Go.Sx

namespace Go.Sx
open Go.Proofs Go.RowKit
set_option maxRecDepth 100000
section
variable {a b c sc : Int} {m : Nat} {F : List Int}
theorem pl_kinds (s : Int) (h : 2 ≤ s) : (pl a b c s).1 = 0 ∨ (pl a b c s).1 = 2 ∨ (pl a b c s).1 = 3 ∨ (pl a b c s).1 = 4 := by
  unfold pl
  split
  · rw [if_neg (by omega)]
    split
    · exact .inr (.inl rfl)
    · split
      · exact .inr (.inr (.inl rfl))
      · split
        · exact .inr (.inr (.inr rfl))
        · exact .inl rfl
  · exact .inl rfl
theorem pl_sup (hg : geoB a b c = true) (s : Int) (h0 : 0 ≤ s) (h : s < 2) : pl a b c s = (1, 0, s, 0) := by
  have := mul_bd hg
  unfold pl
  rw [if_pos ⟨hg, h0, by omega⟩, if_pos h]
theorem fin_is {s : Int} {B : List Int} (hk : (pl a b c s).1 = 3 ∨ (pl a b c s).1 = 4) : isB (pl a b c s).1 (if isB (pl a b c s).1 B = true then B else nextB (pl a b c s).1 B z54) = true := by
  have hm : mayK (pl a b c s).1 = true := by rcases hk with e | e <;> rw [e] <;> rfl
  split
  · assumption
  · obtain ⟨h1, _⟩ := next_get (b := B) (p := z54) hm rfl
    rw [← getE_is hm, h1]; rfl
/-- right behind, where it is in the scope -/
theorem fin_kind (hg : geoB a b c = true) {s : Int} (h0 : 0 ≤ s) (B : List Int) (hin : s < 2 ∨ inS a sc (pl a b c s).2.1 = true) (hk : (pl a b c s).1 ≠ 0) : kindB (fnS a b c sc s B) = (pl a b c s).1 := by
  have fin : ∀ {k : Int} {x : List Int}, mayK k = true → isB k x = true → kindB x = k := fun hm h => by
    rw [isB_kind hm] at h; simpa using h
  unfold fnS
  by_cases h2 : s < 2
  · rw [if_pos h2, pl_sup hg s h0 h2]
    exact fin rfl (wrB_is rfl supL_len).1
  · rw [if_neg h2, if_pos (hin.resolve_left h2)]
    rcases pl_kinds (a := a) (b := b) (c := c) s (by omega) with e | e | e
    · exact absurd e hk
    · rw [if_pos e, e]; exact fin rfl (wrB_is rfl headB_len).1
    · rw [if_neg (by omega), if_neg hk]
      exact fin (by rcases e with e | e <;> rw [e] <;> rfl) (fin_is e)
theorem fin_out {s : Int} (B : List Int) (h2 : ¬ s < 2) (hin : inS a sc (pl a b c s).2.1 = false) : fnS a b c sc s B = B := by
  unfold fnS; rw [if_neg h2, hin]; simp
theorem fin_raw (hg : geoB a b c = true) {s : Int} (h0 : 0 ≤ s) (B : List Int) (hk : (pl a b c s).1 = 0) : fnS a b c sc s B = B := by
  unfold fnS
  by_cases h2 : s < 2
  · rw [pl_sup hg s h0 h2] at hk; cases hk
  · rw [if_neg h2]
    rw [hk]
    split <;> rfl
theorem fin_was (hg : geoB a b c = true) {s : Int} (h0 : 0 ≤ s) (B : List Int) (hk : (pl a b c s).1 = 3 ∨ (pl a b c s).1 = 4) (hB : kindB B = (pl a b c s).1) : fnS a b c sc s B = B := by
  have hm : mayK (pl a b c s).1 = true := by rcases hk with e | e <;> rw [e] <;> rfl
  unfold fnS
  by_cases h2 : s < 2
  · rw [pl_sup hg s h0 h2] at hk; simp at hk
  · rw [if_neg h2]
    split
    · rw [if_neg (by omega), if_neg (by omega), if_pos (by rw [isB_kind hm, hB]; simp)]
    · rfl
/-- what was written is not written again -/
theorem fin_quiet (hg : geoB a b c = true) {s : Int} (h0 : 0 ≤ s) (B : List Int) : quS a b c sc s (fnS a b c sc s B) := by
  unfold quS fnS
  by_cases h2 : s < 2
  · rw [if_pos h2, if_pos h2]; exact wrB_is rfl supL_len
  · rw [if_neg h2, if_neg h2]
    intro hin
    rw [if_pos hin]
    rcases pl_kinds (a := a) (b := b) (c := c) s (by omega) with e | e | e
    · rw [if_neg (by omega), if_pos e]; trivial
    · rw [if_pos e, if_pos e]; exact wrB_is rfl headB_len
    · rw [if_neg (by omega), if_neg (by omega), if_neg (by omega), if_neg (by omega)]; exact fin_is e
/-! bytes stay bytes -/
theorem bytes_app {x y : List Int} (hx : Bytes x) (hy : Bytes y) : Bytes (x ++ y) := fun z hz => (List.mem_append.1 hz).elim (hx z) (hy z)
theorem bytes_put (t : Int) : Bytes (put32 t) := fun x hx => by
  unfold put32 at hx
  simp only [List.mem_cons, List.not_mem_nil, or_false, wrap_u8] at hx
  rcases hx with rfl | rfl | rfl | rfl <;> omega
theorem bytes_next {k : Int} {B p : List Int} (hk : mayK k = true) (hp : Bytes p) : Bytes (nextB k B p) := by
  unfold nextB putB
  rw [if_pos hk]
  have hk' : 1 ≤ k ∧ k ≤ 6 := by simpa [mayK] using hk
  unfold sealB
  refine bytes_app hp (bytes_app (bytes_app ?_ (bytes_put _)) (bytes_put _))
  intro x hx
  simp only [List.mem_cons, List.not_mem_nil, or_false] at hx
  rcases hx with rfl | rfl <;> omega
theorem bytes_rep (n : Nat) : Bytes (List.replicate n 0) := fun x hx => by rw [List.eq_of_mem_replicate hx]; decide
theorem bytes_z54 : Bytes z54 := bytes_rep 54
theorem bytes_cons {x : Int} {l : List Int} (hx : 0 ≤ x ∧ x < 256) (hl : Bytes l) : Bytes (x :: l) := fun y hy => (List.mem_cons.1 hy).elim (fun e => e ▸ hx) (hl y)
theorem bytes_sup : Bytes (sup a b c) := by
  unfold sup
  split
  · rename_i h
    obtain ⟨g1, g2, g3, g4, g5, g6⟩ := geoB_iff.1 h
    exact bytes_cons (by omega) (bytes_cons (by omega) (bytes_cons (by omega) (bytes_cons (by omega) (bytes_cons (by omega) (bytes_cons (by omega) (bytes_cons (by omega) (bytes_cons (by omega) (bytes_cons (by omega) (bytes_cons (by omega) (bytes_rep 44))))))))))
  · exact bytes_z54
theorem bytes_head (g : Int) : Bytes (headB g) := by
  unfold headB
  split
  · rename_i h
    unfold inG at h
    simp at h
    exact bytes_cons (by omega) (bytes_cons (by omega) (bytes_rep 52))
  · exact bytes_z54
theorem bytes_wr {k : Int} {p B : List Int} (hk : mayK k = true) (hp : Bytes p) (hB : Bytes B) : Bytes (wrB k p B) := by
  unfold wrB
  split
  · exact hB
  · exact bytes_next hk hp
theorem bytes_fin {s : Int} {B : List Int} (hB : Bytes B) : Bytes (fnS a b c sc s B) := by
  unfold fnS
  by_cases h2 : s < 2
  · rw [if_pos h2]; exact bytes_wr rfl bytes_sup hB
  · rw [if_neg h2]
    split
    · rcases pl_kinds (a := a) (b := b) (c := c) s (by omega) with e | e | e
      · rw [if_neg (by omega), if_pos e]; exact hB
      · rw [if_pos e]; exact bytes_wr rfl (bytes_head _) hB
      · rw [if_neg (by omega), if_neg (by omega)]
        split
        · exact hB
        · exact bytes_next (by rcases e with e | e <;> rw [e] <;> rfl) bytes_z54
    · exact hB
/-! the shape is found again -/
theorem le16_small {x : Int} (h : 0 ≤ x ∧ x < 256) : le16 x 0 = x := by
  unfold le16
  rw [(shl_eq h).1, (shl_eq (x := 0) (by omega)).2.1]
  have k0 : or32 0 x = 0 + x := or32_add (a := x) 0 (by omega) (by decide) (by omega) (by simp) ⟨by omega, by omega⟩ ⟨by omega, by omega⟩ ⟨by omega, by omega⟩
  have k1 : or32 x (256 * 0) = x + 256 * 0 := or32_add (a := 0) 8 (by omega) (by simpa using h.2) (by omega) (by simp) ⟨by omega, by omega⟩ ⟨by omega, by omega⟩ ⟨by omega, by omega⟩
  rw [k0, Int.zero_add, k1, wrap_u16]
  rw [show (x + 256 * 0) % 65536 = x by omega]
  exact IntWalk.i64_in _ (by omega)
theorem g16_sup (hg : geoB a b c = true) : g16 (sup a b c) 4 = a ∧ g16 (sup a b c) 6 = b ∧ g16 (sup a b c) 8 = c := by
  obtain ⟨g1, g2, g3, g4, g5, g6⟩ := geoB_iff.1 hg
  have e : sup a b c = 83 :: 67 :: 85 :: 80 :: a :: 0 :: b :: 0 :: c :: 0 :: z44 := by unfold sup; rw [if_pos hg]
  rw [e]
  exact ⟨(show le16 a 0 = a from le16_small (by omega)), (show le16 b 0 = b from le16_small (by omega)), (show le16 c 0 = c from le16_small (by omega))⟩
theorem isK_sup (hg : geoB a b c = true) (ht : tot a b c = (m : Int)) {L : List Int} {o : Nat} (h : isB 1 (blkAt L o) = true ∧ t54 (blkAt L o) = sup a b c) : isK L m o = true := by
  obtain ⟨h1, h2⟩ := h
  obtain ⟨e1, e2, e3⟩ := g16_sup hg
  have hp : getP 1 (blkAt L o) = sup a b c := by unfold getP; rw [if_pos h1, h2]
  unfold isK
  rw [hp, e1, e2, e3, ht, getE_is rfl, h1]
  have : supOk (sup a b c) = true := by
    unfold supOk gOk gSup
    rw [e1, e2, e3, hg]; simp
  rw [this]; simp
theorem find_sup (hg : geoB a b c = true) (ht : tot a b c = (m : Int)) {L : List Int} (h : isB 1 (blkAt L 0) = true ∧ t54 (blkAt L 0) = sup a b c) : fndE L m = 0 ∧ fndG L m 4 = a ∧ fndG L m 6 = b ∧ fndG L m 8 = c := by
  have hk := isK_sup hg ht h
  have hm := mul_bd hg
  have ht' := ht
  unfold tot at ht'
  rw [if_pos hg] at ht'
  have ho : fndOk L m = true := by
    unfold fndOk; rw [hk]; simp; omega
  have hp : fndP L m = sup a b c := by
    unfold fndP; rw [if_pos hk]; unfold getP; rw [if_pos h.1, h.2]
  obtain ⟨e1, e2, e3⟩ := g16_sup hg
  unfold fndE fndG sel
  rw [ho, hp, e1, e2, e3]
  simp
theorem find_geo (h : fndOk F m = true) : geoB (fndG F m 4) (fndG F m 6) (fndG F m 8) = true := by
  have h' := h
  unfold fndOk at h
  simp only [Bool.and_eq_true, Bool.or_eq_true] at h
  unfold fndG sel fndP
  rw [h']
  simp only [if_true]
  by_cases h0 : isK F m 0 = true
  · rw [if_pos h0]
    unfold isK supOk gOk at h0
    simp only [Bool.and_eq_true] at h0
    exact h0.2.1.1
  · rw [if_neg h0]
    have h1 := h.2.resolve_left h0
    unfold isK supOk gOk at h1
    simp only [Bool.and_eq_true] at h1
    exact h1.2.1.1
end
end Go.Sx
