/-
  Parts of the executor Sx over the model's code (any program), or of this seat's walks: words and proofs that the row's text uses.
-/
import Derived.Test.YtganobhodimjnaaH1
namespace Go.Sx
open Go.Proofs Go.RowKit
set_option maxRecDepth 100000
section
variable (off : Nat) (L F2 : List Int) (p q r : Int) (F G H : List Int) (m N : Nat) (a b c sc out i : Int) (l : List (Int × Int)) (xm : Blk)
noncomputable abbrev img4 (nl nw : Nat) : Blk := .row 89 false none (.cells [.int .i64 a, .int .i64 b, .int .i64 c, .slu nl 64 0 m, .int .u32 sc, .map nw, .int .i64 out])
abbrev noB : Blk := .row 49 false none (.ints .u8 [] 0)
noncomputable def hp4 (xm : Blk) (l : List (Nat × Blk)) : T Blk := ofL ([(0, .win off .u8 L), (1, noB), (2, secB F N), (3, noB), (4, secB F2 N), (5, .row 23 false none (.cells [.int .i64 p, .int .i64 q, .int .i64 r])), (6, noB), (7, secB G N), (8, xm), (9, img4 m a b c sc out 7 8)] ++ l)
abbrev sv4 : List (Nat × RV) := [(0, .one (.c (.slu 2 64 0 m))), (1, .one (.c (.int .u32 sc))), (5, .one (.c (.ptr 9 0)))]
noncomputable def s4a : S := fgt [0, 1, 5] n4 ⟨ofL (sv4 m sc), hp4 off L F2 p q r F G m N a b c sc out xm [], 10, []⟩
noncomputable def s4b (m7 N7 : Nat) : S := fgt [0, 1, 5, 7] n4 ⟨ofL (sv4 m sc ++ [(7, .one (.c (.slu 11 64 0 m7)))]), hp4 off L F2 p q r F G m N a b c sc out xm [(10, noB), (11, secB H N7)], 12, []⟩
noncomputable def s4c : S := low n4 12 (fgt [0, 1, 5, 7, 8] n4 ⟨ofL (sv4 m sc ++ [(7, .one (.c (.slu 11 64 0 m))), (8, .one (.c (.int .i64 i)))]), hp4 off L F2 p q r F G m N a b c sc out xm [(10, noB), (11, secB H N)], 12, []⟩)
noncomputable def t4 : Code := tailN 5 c4
noncomputable def mid4 (M : S → Prop) (R : X → Option (List AV) → Prop) : Option Prop :=
  execN Try.prog sg4 300 n4 2 t4 (s4a off L F2 p q r F G m N a b c sc 0 (.map [])) αT (fun x s α => some (All α.ob ∧ match x with | .normal => M (fgt [0, 1, 5, 7] n4 s) | x => R x (resOf Try.prog n4 s Try.f4.results.toList)))
noncomputable def u4 : Code := tailN 2 t4
noncomputable def lp4 : Code := match gR (gL u4) with | .block _ (.loop c) => c | _ => .skip
noncomputable def ini4 (Q : X → S → Prop) : Option Prop := execA Try.prog sg4 300 n4 (gL (gL u4)) (s4b off L F2 p q r F G H m N a b c sc out (.mapI none l) m N) αT (fun x s α => some (All α.ob ∧ (Nat.ble 12 s.nx = true ∧ Q x (low n4 12 (fgt [0, 1, 5, 7, 8] n4 s)))))
noncomputable def rndA (Q : X → S → Prop) : Option Prop := execA Try.prog sg4 300 n4 (gL lp4) (s4c off L F2 p q r F G H m N a b c sc out i (.mapI none l)) αT (fun x s α => some (All α.ob ∧ (Nat.ble 12 s.nx = true ∧ Q x (low n4 12 (fgt [0, 1, 5, 7, 8] n4 s)))))
noncomputable def bk4 : Code := match gL (gR lp4) with | .block _ c => c | _ => .skip
variable (wk wg wi : Int) (inn : Bool) (m7 N7 : Nat)
noncomputable def s4d : S := fgt [0, 1, 5, 7, 8, 9, 11] n4 ⟨ofL (sv4 m sc ++ [(7, .one (.c (.slu 11 64 0 m))), (8, .one (.c (.int .i64 i))), (9, .one (.c (.ptr 13 0))), (11, .one (.c (.bool inn)))]), hp4 off L F2 p q r F G m N a b c sc out (.mapI none l) [(10, noB), (11, secB H N), (12, .row 23 false none (.cells [.int .i64 a, .int .i64 b, .int .i64 c])), (13, .row 42 false none (.cells [.int .i64 wk, .int .i64 wg, .int .i64 wi]))], 14, []⟩
noncomputable def rndB1 (Q : X → S → Prop) : Option Prop := execA Try.prog sg4 300 n4 (gL bk4) (s4c off L F2 p q r F G H m N a b c sc out i (.mapI none l)) αT (fun x s α => some (All α.ob ∧ match x with | .ret => False | x => Q x (fgt [0, 1, 5, 7, 8, 9] n4 s)))
noncomputable def s4e : S := fgt [0, 1, 5, 7, 8, 9] n4 ⟨ofL (sv4 m sc ++ [(7, .one (.c (.slu 11 64 0 m))), (8, .one (.c (.int .i64 i))), (9, .one (.c (.ptr 13 0)))]), hp4 off L F2 p q r F G m N a b c sc out (.mapI none l) [(10, noB), (11, secB H N), (12, .row 23 false none (.cells [.int .i64 a, .int .i64 b, .int .i64 c])), (13, .row 42 false none (.cells [.int .i64 wk, .int .i64 wg, .int .i64 wi]))], 14, []⟩
noncomputable def rndB2 (Q : X → S → Prop) : Option Prop := execA Try.prog sg4 300 n4 (gL (gR bk4)) (s4e off L F2 p q r F G H m N a b c sc out i l wk wg wi) αT (fun x s α => some (All α.ob ∧ match x with | .ret => False | x => Q x (fgt [0, 1, 5, 7, 8, 9, 11] n4 s)))
noncomputable def rndCt (Q : X → S → Prop) : Option Prop := execA Try.prog sg4 300 n4 (gL (gR (gR bk4))) (s4d off L F2 p q r F G H m N a b c sc out i l wk wg wi true) αT (fun x s α => some (All α.ob ∧ match x with | .ret => False | x => Q x (fgt [0, 1, 5, 7, 8, 9, 11] n4 s)))
noncomputable def rndCf (Q : X → S → Prop) : Option Prop := execA Try.prog sg4 300 n4 (gL (gR (gR bk4))) (s4d off L F2 p q r F G H m N a b c sc out i l wk wg wi false) αT (fun x s α => some (All α.ob ∧ match x with | .ret => False | x => Q x (fgt [0, 1, 5, 7, 8, 9, 11] n4 s)))
noncomputable def s4f : S := fgt [0, 1, 5, 7, 8] n4 ⟨ofL (sv4 m sc ++ [(7, .one (.c (.slu 11 64 0 m))), (8, .one (.c (.int .i64 i)))]), hp4 off L F2 p q r F G m N a b c sc out (.mapI none l) [(10, noB), (11, secB H N), (12, .row 23 false none (.cells [.int .i64 a, .int .i64 b, .int .i64 c])), (13, .row 42 false none (.cells [.int .i64 wk, .int .i64 wg, .int .i64 wi]))], 14, []⟩
noncomputable def rndD (Q : X → S → Prop) : Option Prop := execA Try.prog sg4 300 n4 (gR (gR (gR bk4))) (s4d off L F2 p q r F G H m N a b c sc out i l wk wg wi inn) αT (fun x s α => some (All α.ob ∧ match x with | .ret => False | x => Q x (fgt [0, 1, 5, 7, 8] n4 s)))
noncomputable def rndE (Q : X → S → Prop) : Option Prop := execA Try.prog sg4 300 n4 (gR (gR lp4)) (s4c off L F2 p q r F G H m N a b c sc out i (.mapI none l)) αT (fun x s α => some (All α.ob ∧ match x with | .ret => False | x => Nat.ble 12 s.nx = true ∧ Q x (low n4 12 (fgt [0, 1, 5, 7, 8] n4 s))))
noncomputable def v4 : Code := gR u4
noncomputable def end4 (M : S → Prop) (R : X → Option (List AV) → Prop) : Option Prop :=
  execN Try.prog sg4 300 n4 1 v4 (s4c off L F2 p q r F G H m N a b c sc out i (.mapI none l)) αT (fun x s α => some (All α.ob ∧ match x with | .normal => M (fgt [5, 12, 13] n4 s) | x => R x (resOf Try.prog n4 s Try.f4.results.toList)))
variable (K Y : List Int) (mY NK NY : Nat) (a' b' c' err : Int)
noncomputable def s4g : S := fgt [5, 12, 13] n4 ⟨ofL [(5, .one (.c (.ptr 9 0))), (12, .one (.c (.ptr 18 0))), (13, .one (.c (.int .i64 err)))], hp4 off L F2 p q r F G m N a b c sc out (.mapI none l) [(10, noB), (11, secB H N), (12, noB), (13, secB K NK), (14, .row 23 false none (.cells [.int .i64 a', .int .i64 b', .int .i64 c'])), (15, noB), (16, secB Y NY), (17, .map []), (18, img4 mY a' b' c' sc 0 16 17)], 19, []⟩
noncomputable def fin4 (R : X → Option (List AV) → Prop) : Option Prop := execA Try.prog sg4 300 n4 (gR v4) (s4g off L F2 p q r F G H m N a b c sc out l K Y mY NK NY a' b' c' err) αT (fun x s α => some (All α.ob ∧ R x (resOf Try.prog n4 s Try.f4.results.toList)))
end
end Go.Sx

namespace Go.Sx
open Go.Proofs Go.RowKit
set_option maxRecDepth 100000
/-! ### what the first phase leaves, sector by sector -/
noncomputable abbrev bk (L : List Int) (s : Int) : List Int := blkAt L (s.toNat * 64)
noncomputable def wrB (k : Int) (p B : List Int) : List Int := if isB k B && (t54 B == p) then B else nextB k B p
theorem wrB_is {k : Int} {p B : List Int} (hk : mayK k = true) (hp : p.length = 54) : isB k (wrB k p B) = true ∧ t54 (wrB k p B) = p := by
  unfold wrB
  split
  · rename_i h
    simp only [Bool.and_eq_true, beq_iff_eq] at h
    exact h
  · obtain ⟨h1, h2⟩ := next_get (b := B) hk hp
    have hi : isB k (nextB k B p) = true := by rw [← getE_is hk, h1]; rfl
    refine ⟨hi, ?_⟩
    unfold getP at h2
    rw [if_pos hi] at h2
    exact h2
section
variable (a b c sc : Int)
noncomputable def fnS (s : Int) (B : List Int) : List Int :=
  if s < 2 then wrB 1 (sup a b c) B
  else if inS a sc (pl a b c s).2.1 = true then
    (if (pl a b c s).1 = 2 then wrB 2 (headB (pl a b c s).2.1) B
     else if (pl a b c s).1 = 0 then B
     else if isB (pl a b c s).1 B = true then B else nextB (pl a b c s).1 B z54)
  else B
def quS (s : Int) (B : List Int) : Prop :=
  if s < 2 then isB 1 B = true ∧ t54 B = sup a b c
  else inS a sc (pl a b c s).2.1 = true →
    (if (pl a b c s).1 = 2 then isB 2 B = true ∧ t54 B = headB (pl a b c s).2.1
     else if (pl a b c s).1 = 0 then True else isB (pl a b c s).1 B = true)
structure InvS (m : Nat) (st0 : St) (X : Int) (st : St) : Prop where
  len : st.1.length = 64 * m
  blk : ∀ s : Int, 0 ≤ s → s < m → bk st.1 s = if s < X then fnS a b c sc s (bk st0.1 s) else bk st0.1 s
  out : st.2.2 = st0.2.2
  map : (∀ s : Int, 0 ≤ s → s < X → quS a b c sc s (Sx.bk st0.1 s)) → st.2.1 = st0.2.1
end
section
variable {a b c sc : Int} {m : Nat} {st0 st : St} {X : Int}
theorem InvS.skip (h : InvS a b c sc m st0 X st) {Y : Int} (hxy : X ≤ Y) (hf : ∀ s, X ≤ s → s < Y → s < m → ∀ B, fnS a b c sc s B = B) : InvS a b c sc m st0 Y st where
  len := h.len
  blk := fun s h0 h1 => by
    rw [h.blk s h0 h1]
    by_cases hx : s < X
    · rw [if_pos hx, if_pos (by omega)]
    · rw [if_neg hx]
      by_cases hy : s < Y
      · rw [if_pos hy, hf s (by omega) hy h1]
      · rw [if_neg hy]
  out := h.out
  map := fun hq => h.map fun s h0 h1 => hq s h0 (by omega)
theorem InvS.wr (h : InvS a b c sc m st0 X st) (h0 : 0 ≤ X) (hm : X < m) {k : Int} {p : List Int} (hk : mayK k = true) (hp : p.length = 54) (hin : X < 2 ∨ inS a sc (pl a b c X).2.1 = true)
    (hf : fnS a b c sc X (bk st0.1 X) = wrB k p (bk st0.1 X)) (hq : quS a b c sc X (bk st0.1 X) → isB k (bk st0.1 X) = true ∧ t54 (bk st0.1 X) = p) : InvS a b c sc m st0 (X + 1) (wr1 a b c m sc st X k p) := by
  have hs : hasS m X = true := hasS_iff.2 ⟨h0, hm⟩
  have hB : bk st.1 X = bk st0.1 X := by rw [h.blk X h0 hm, if_neg (by omega)]
  have hok : ldOk st.1 m X k = isB k (bk st0.1 X) := by
    unfold ldOk; rw [hs, Bool.true_and]
    show (getE k (bk st.1 X) == 0) = _
    rw [hB, getE_is hk]
  have hld : isB k (bk st0.1 X) = true → ldP st.1 m X k = t54 (bk st0.1 X) := fun hi => by
    unfold ldP; rw [hs, if_pos rfl]
    show getP k (bk st.1 X) = _
    rw [hB]; unfold getP; rw [if_pos hi]
  by_cases hc : isB k (bk st0.1 X) = true ∧ t54 (bk st0.1 X) = p
  · have e : wr1 a b c m sc st X k p = st := by
      show (wrEnd a b c m sc st.2.2 st.1 st.2.1 X k p).2 = st
      unfold wrEnd
      rw [hs, if_pos rfl, hok, hc.1, hld hc.1, hc.2]
      simp
    rw [e]
    have hw : fnS a b c sc X (bk st0.1 X) = bk st0.1 X := by
      rw [hf]; unfold wrB; rw [if_pos (by simp [hc.1, hc.2])]
    refine ⟨h.len, fun s s0 s1 => ?_, h.out, fun hq' => h.map fun s s0 s1 => hq' s s0 (by omega)⟩
    rw [h.blk s s0 s1]
    by_cases hx : s < X
    · rw [if_pos hx, if_pos (by omega)]
    · rw [if_neg hx]
      by_cases hy : s = X
      · subst hy; rw [if_pos (by omega), hw]
      · rw [if_neg (by omega)]
  · have hcb : (ldOk st.1 m X k && (ldP st.1 m X k == p)) = false := by
      rw [hok]
      cases hi : isB k (bk st0.1 X) with
      | false => rfl
      | true =>
        rw [hld hi, Bool.true_and]
        simp
        exact fun e => hc ⟨hi, e⟩
    have hio : (decide (X ≥ 2) && !inS a sc (pl a b c X).2.1) = false := by
      rcases hin with hin | hin
      · have : decide (X ≥ 2) = false := by simp; omega
        rw [this]; rfl
      · rw [hin]; simp
    have e : wr1 a b c m sc st X k p = (over st.1 (X.toNat * 64) (nextB k (bk st0.1 X) p), putI st.2.1 X 1, st.2.2) := by
      show (wrEnd a b c m sc st.2.2 st.1 st.2.1 X k p).2 = _
      unfold wrEnd
      rw [hs, if_pos rfl, hcb, putE_may.2 hk, hio, ← hB]
      rfl
    have hw : fnS a b c sc X (bk st0.1 X) = nextB k (bk st0.1 X) p := by
      rw [hf]; unfold wrB; rw [if_neg (by simpa using hc)]
    rw [e]
    have hl := h.len
    refine ⟨?_, fun s s0 s1 => ?_, h.out, fun hq' => absurd (hq (hq' X h0 (by omega))) hc⟩
    · show (over st.1 _ _).length = _
      rw [over_len (by rw [nextB_len hp]; omega)]; exact hl
    · show blkAt (over st.1 (X.toNat * 64) (nextB k (bk st0.1 X) p)) (s.toNat * 64) = _
      by_cases hy : s = X
      · subst hy
        rw [over_at_same (nextB_len hp) (by omega), if_pos (by omega), hw]
      · rw [over_at_other (nextB_len hp) (by omega) (by omega)]
        have := h.blk s s0 s1
        rw [show blkAt st.1 (s.toNat * 64) = bk st.1 s from rfl, this]
        by_cases hx : s < X
        · rw [if_pos hx, if_pos (by omega)]
        · rw [if_neg hx, if_neg (by omega)]
theorem InvS.sec (h : InvS a b c sc m st0 X st) (h0 : 2 ≤ X) (hm : X < m) (hk : (pl a b c X).1 = 3 ∨ (pl a b c X).1 = 4) (hin : inS a sc (pl a b c X).2.1 = true) : InvS a b c sc m st0 (X + 1) (sec1 a b c m sc st X) := by
  have hs : hasS m X = true := hasS_iff.2 ⟨by omega, hm⟩
  have hmay : mayK (pl a b c X).1 = true := by rcases hk with e | e <;> rw [e] <;> rfl
  have hB : bk st.1 X = bk st0.1 X := by rw [h.blk X (by omega) hm, if_neg (by omega)]
  have hok : ldOk st.1 m X (pl a b c X).1 = isB (pl a b c X).1 (bk st0.1 X) := by
    unfold ldOk; rw [hs, Bool.true_and]
    show (getE _ (bk st.1 X) == 0) = _
    rw [hB, getE_is hmay]
  have hfin : ∀ B, fnS a b c sc X B = if isB (pl a b c X).1 B = true then B else nextB (pl a b c X).1 B z54 := fun B => by
    unfold fnS
    rw [if_neg (by omega), if_pos hin, if_neg (by omega), if_neg (by omega)]
  unfold sec1
  rw [hok]
  cases hi : isB (pl a b c X).1 (bk st0.1 X) with
  | true =>
    rw [if_pos rfl]
    refine ⟨h.len, fun s s0 s1 => ?_, h.out, fun hq' => h.map fun s s0 s1 => hq' s s0 (by omega)⟩
    rw [h.blk s s0 s1]
    by_cases hx : s < X
    · rw [if_pos hx, if_pos (by omega)]
    · rw [if_neg hx]
      by_cases hy : s = X
      · subst hy; rw [if_pos (by omega), hfin, if_pos hi]
      · rw [if_neg (by omega)]
  | false =>
    rw [if_neg (by simp)]
    refine h.wr (by omega) hm hmay rfl (.inr hin) ?_ fun hq => ?_
    · rw [hfin, hi, if_neg (by simp)]
      unfold wrB
      rw [hi, Bool.false_and, if_neg (by simp)]
    · unfold quS at hq
      rw [if_neg (by omega)] at hq
      have := hq hin
      rw [if_neg (by omega), if_neg (by omega), hi] at this
      cases this
/-- the sectors of a group -/
theorem pl_at (hg : geoB a b c = true) {g j : Int} (h0 : 0 ≤ g) (h1 : g < a) (j0 : 0 ≤ j) (j1 : j < 2 + b + c) :
    pl a b c (2 + g * (2 + b + c) + j) = if j = 0 then (2, g, 0, 0) else if j = 1 then (3, g, 0, 0) else if j < 2 + b then (4, g, j - 2, 0) else (0, g, j - 2 - b, 0) := by
  obtain ⟨g1, g2, g3, g4, g5, g6⟩ := geoB_iff.1 hg
  have m0 : 0 ≤ g * (2 + b + c) := Int.mul_nonneg h0 (by omega)
  have m1 : (g + 1) * (2 + b + c) ≤ a * (2 + b + c) := Int.mul_le_mul_of_nonneg_right (by omega) (by omega)
  have m2 : (g + 1) * (2 + b + c) = g * (2 + b + c) + (2 + b + c) := by rw [Int.add_mul, Int.one_mul]
  have e : 2 + g * (2 + b + c) + j - 2 = j + (2 + b + c) * g := by rw [Int.mul_comm]; omega
  have hmod : (2 + g * (2 + b + c) + j - 2) % (2 + b + c) = j := by
    rw [e, Int.add_mul_emod_self_left]; exact Int.emod_eq_of_lt j0 j1
  have hdiv : (2 + g * (2 + b + c) + j - 2) / (2 + b + c) = g := by
    rw [e, Int.add_mul_ediv_left _ _ (by omega), Int.ediv_eq_zero_of_lt j0 j1, Int.zero_add]
  unfold pl
  rw [if_pos ⟨hg, by omega, by omega⟩, if_neg (by omega), hmod, hdiv]
theorem InvS.secs (hg : geoB a b c = true) {g : Int} (h0 : 0 ≤ g) (h1 : g < a) (hm : (m : Int) = 2 + a * (2 + b + c)) (hin : inS a sc g = true) : ∀ (n : Nat) (j : Int) (st : St), 1 ≤ j → j + n = 2 + b → InvS a b c sc m st0 (2 + g * (2 + b + c) + j) st →
    InvS a b c sc m st0 (2 + g * (2 + b + c) + (2 + b)) (secs a b c m sc n st (2 + g * (2 + b + c) + j))
  | 0, j, st, hj, hn, h => by
    rw [Sx.secs]
    have : j = 2 + b := by simpa using hn
    subst this; exact h
  | n + 1, j, st, hj, hn, h => by
    obtain ⟨g1, g2, g3, g4, g5, g6⟩ := geoB_iff.1 hg
    have m0 : 0 ≤ g * (2 + b + c) := Int.mul_nonneg h0 (by omega)
    have m1 : (g + 1) * (2 + b + c) ≤ a * (2 + b + c) := Int.mul_le_mul_of_nonneg_right (by omega) (by omega)
    have m2 : (g + 1) * (2 + b + c) = g * (2 + b + c) + (2 + b + c) := by rw [Int.add_mul, Int.one_mul]
    push_cast at hn
    have hp := pl_at hg h0 h1 (j := j) (by omega) (by omega)
    rw [if_neg (by omega)] at hp
    rw [Sx.secs]
    have hs := h.sec (by omega) (by omega) (by
      rw [hp]
      split
      · exact .inl rfl
      · rw [if_pos (by omega)]; exact .inr rfl) (by
      rw [hp]
      split
      · exact hin
      · rw [if_pos (by omega)]; exact hin)
    have := InvS.secs hg h0 h1 hm hin n (j + 1) _ (by omega) (by omega) (by rw [← Int.add_assoc]; exact hs)
    rw [show 2 + g * (2 + b + c) + (j + 1) = 2 + g * (2 + b + c) + j + 1 by omega] at this
    exact this
theorem inS_range {g : Int} (h : inS a sc g = true) : 0 ≤ g ∧ g < a := by
  unfold inS at h
  simp only [Bool.and_eq_true, decide_eq_true_eq] at h
  omega
theorem InvS.grp (hg : geoB a b c = true) {g : Int} (h0 : 0 ≤ g) (h1 : g < a) (hm : (m : Int) = 2 + a * (2 + b + c)) (h : InvS a b c sc m st0 (2 + g * (2 + b + c)) st) : InvS a b c sc m st0 (2 + (g + 1) * (2 + b + c)) (grp1 a b c m sc st g) := by
  obtain ⟨g1, g2, g3, g4, g5, g6⟩ := geoB_iff.1 hg
  have m0 : 0 ≤ g * (2 + b + c) := Int.mul_nonneg h0 (by omega)
  have m1 : (g + 1) * (2 + b + c) ≤ a * (2 + b + c) := Int.mul_le_mul_of_nonneg_right (by omega) (by omega)
  have m2 : (g + 1) * (2 + b + c) = g * (2 + b + c) + (2 + b + c) := by rw [Int.add_mul, Int.one_mul]
  -- each sector of it
  have hpl : ∀ s, 2 + g * (2 + b + c) ≤ s → s < 2 + (g + 1) * (2 + b + c) → ∃ j, 0 ≤ j ∧ j < 2 + b + c ∧ s = 2 + g * (2 + b + c) + j := fun s s0 s1 => ⟨s - (2 + g * (2 + b + c)), by omega, by omega, by omega⟩
  have hgp : ∀ s, 2 + g * (2 + b + c) ≤ s → s < 2 + (g + 1) * (2 + b + c) → (pl a b c s).2.1 = g := fun s s0 s1 => by
    obtain ⟨j, j0, j1, rfl⟩ := hpl s s0 s1
    rw [pl_at hg h0 h1 j0 j1]
    split
    · rfl
    · split
      · rfl
      · split <;> rfl
  unfold grp1
  cases hin : inS a sc g with
  | false =>
    rw [if_neg (by simp)]
    refine h.skip (by omega) fun s s0 s1 _ B => ?_
    unfold fnS
    rw [if_neg (by omega), hgp s s0 s1, hin, if_neg (by simp)]
  | true =>
    rw [if_pos rfl]
    have hfst : fstS a b c g = 2 + g * (2 + b + c) := by
      unfold fstS
      rw [if_pos (by unfold fstB; rw [hg]; simp; omega)]
    unfold Sx.grp
    rw [hfst]
    have p0 := pl_at hg h0 h1 (j := 0) (by omega) (by omega)
    rw [if_pos rfl, Int.add_zero] at p0
    have hhead := h.wr (by omega) (by omega) (k := 2) (p := headB g) rfl headB_len (.inr (by rw [p0]; exact hin)) (by
      unfold fnS
      rw [if_neg (by omega), p0]
      simp only
      rw [if_pos hin, if_pos trivial]) (fun hq => by
      unfold quS at hq
      rw [if_neg (by omega), p0] at hq
      have := hq hin
      rw [if_pos rfl] at this
      exact this)
    have hs := InvS.secs hg h0 h1 hm hin (b + 1).toNat 1 _ (by omega) (by omega) hhead
    refine hs.skip (by omega) fun s s0 s1 _ B => ?_
    obtain ⟨j, j0, j1, rfl⟩ := hpl s (by omega) s1
    have hj : 2 + b ≤ j := by omega
    have hp := pl_at hg h0 h1 j0 j1
    rw [if_neg (by omega), if_neg (by omega), if_neg (by omega)] at hp
    unfold fnS
    rw [if_neg (by omega), hp]
    simp
theorem InvS.grps (hg : geoB a b c = true) (hm : (m : Int) = 2 + a * (2 + b + c)) : ∀ (n : Nat) (g : Int) (st : St), 0 ≤ g → g + n = a → InvS a b c sc m st0 (2 + g * (2 + b + c)) st → InvS a b c sc m st0 m (grps a b c m sc n st g)
  | 0, g, st, h0, hn, h => by
    rw [Sx.grps, hm]
    have : g = a := by simpa using hn
    subst this; exact h
  | n + 1, g, st, h0, hn, h => by
    rw [Sx.grps]
    push_cast at hn
    exact InvS.grps hg hm n (g + 1) _ (by omega) (by omega) (h.grp hg h0 (by omega) hm)
theorem runS_inv (hg : geoB a b c = true) (hm : (m : Int) = 2 + a * (2 + b + c)) (hl : st0.1.length = 64 * m) : InvS a b c sc m st0 m (runS a b c m sc st0) := by
  obtain ⟨g1, g2, g3, g4, g5, g6⟩ := geoB_iff.1 hg
  have hb := mul_bd hg
  have h0 : InvS a b c sc m st0 0 st0 := ⟨hl, fun s s0 _ => by rw [if_neg (by omega)], rfl, fun _ => rfl⟩
  have w : ∀ {X : Int} {st : St}, 0 ≤ X → X < 2 → InvS a b c sc m st0 X st → InvS a b c sc m st0 (X + 1) (wr1 a b c m sc st X 1 (sup a b c)) := fun x0 x1 h =>
    h.wr x0 (by omega) rfl supL_len (.inl x1) (by unfold fnS; rw [if_pos x1]) (fun hq => by unfold quS at hq; rw [if_pos x1] at hq; exact hq)
  have h2 : InvS a b c sc m st0 2 (sup2 a b c m sc st0) := w (by omega) (by omega) (w (by omega) (by omega) h0)
  exact InvS.grps hg hm a.toNat 0 _ (by omega) (by omega) (by rw [Int.zero_mul, Int.add_zero]; exact h2)
end
#print axioms runS_inv
end Go.Sx

namespace Go.Sx
open Go.Proofs Go.RowKit
set_option maxRecDepth 100000
section
variable {a b c sc : Int} {m : Nat} {F : List Int}
theorem pl_kinds (s : Int) (h : 2 ≤ s) : (pl a b c s).1 = 0 ∨ (pl a b c s).1 = 2 ∨ (pl a b c s).1 = 3 ∨ (pl a b c s).1 = 4 := by
  unfold pl
  split
  · rw [if_neg (by omega)]
    split
    · exact .inr (.inl rfl)
    · split
      · exact .inr (.inr (.inl rfl))
      · split
        · exact .inr (.inr (.inr rfl))
        · exact .inl rfl
  · exact .inl rfl
theorem pl_sup (hg : geoB a b c = true) (s : Int) (h0 : 0 ≤ s) (h : s < 2) : pl a b c s = (1, 0, s, 0) := by
  have := mul_bd hg
  unfold pl
  rw [if_pos ⟨hg, h0, by omega⟩, if_pos h]
theorem fin_is {s : Int} {B : List Int} (hk : (pl a b c s).1 = 3 ∨ (pl a b c s).1 = 4) : isB (pl a b c s).1 (if isB (pl a b c s).1 B = true then B else nextB (pl a b c s).1 B z54) = true := by
  have hm : mayK (pl a b c s).1 = true := by rcases hk with e | e <;> rw [e] <;> rfl
  split
  · assumption
  · obtain ⟨h1, _⟩ := next_get (b := B) (p := z54) hm rfl
    rw [← getE_is hm, h1]; rfl
/-- right behind, where it is in the scope -/
theorem fin_kind (hg : geoB a b c = true) {s : Int} (h0 : 0 ≤ s) (B : List Int) (hin : s < 2 ∨ inS a sc (pl a b c s).2.1 = true) (hk : (pl a b c s).1 ≠ 0) : kindB (fnS a b c sc s B) = (pl a b c s).1 := by
  have fin : ∀ {k : Int} {x : List Int}, mayK k = true → isB k x = true → kindB x = k := fun hm h => by
    rw [isB_kind hm] at h; simpa using h
  unfold fnS
  by_cases h2 : s < 2
  · rw [if_pos h2, pl_sup hg s h0 h2]
    exact fin rfl (wrB_is rfl supL_len).1
  · rw [if_neg h2, if_pos (hin.resolve_left h2)]
    rcases pl_kinds (a := a) (b := b) (c := c) s (by omega) with e | e | e
    · exact absurd e hk
    · rw [if_pos e, e]; exact fin rfl (wrB_is rfl headB_len).1
    · rw [if_neg (by omega), if_neg hk]
      exact fin (by rcases e with e | e <;> rw [e] <;> rfl) (fin_is e)
theorem fin_out {s : Int} (B : List Int) (h2 : ¬ s < 2) (hin : inS a sc (pl a b c s).2.1 = false) : fnS a b c sc s B = B := by
  unfold fnS; rw [if_neg h2, hin]; simp
theorem fin_raw (hg : geoB a b c = true) {s : Int} (h0 : 0 ≤ s) (B : List Int) (hk : (pl a b c s).1 = 0) : fnS a b c sc s B = B := by
  unfold fnS
  by_cases h2 : s < 2
  · rw [pl_sup hg s h0 h2] at hk; cases hk
  · rw [if_neg h2]
    rw [hk]
    split <;> rfl
theorem fin_was (hg : geoB a b c = true) {s : Int} (h0 : 0 ≤ s) (B : List Int) (hk : (pl a b c s).1 = 3 ∨ (pl a b c s).1 = 4) (hB : kindB B = (pl a b c s).1) : fnS a b c sc s B = B := by
  have hm : mayK (pl a b c s).1 = true := by rcases hk with e | e <;> rw [e] <;> rfl
  unfold fnS
  by_cases h2 : s < 2
  · rw [pl_sup hg s h0 h2] at hk; simp at hk
  · rw [if_neg h2]
    split
    · rw [if_neg (by omega), if_neg (by omega), if_pos (by rw [isB_kind hm, hB]; simp)]
    · rfl
/-- what was written is not written again -/
theorem fin_quiet (hg : geoB a b c = true) {s : Int} (h0 : 0 ≤ s) (B : List Int) : quS a b c sc s (fnS a b c sc s B) := by
  unfold quS fnS
  by_cases h2 : s < 2
  · rw [if_pos h2, if_pos h2]; exact wrB_is rfl supL_len
  · rw [if_neg h2, if_neg h2]
    intro hin
    rw [if_pos hin]
    rcases pl_kinds (a := a) (b := b) (c := c) s (by omega) with e | e | e
    · rw [if_neg (by omega), if_pos e]; trivial
    · rw [if_pos e, if_pos e]; exact wrB_is rfl headB_len
    · rw [if_neg (by omega), if_neg (by omega), if_neg (by omega), if_neg (by omega)]; exact fin_is e
/-! bytes stay bytes -/
theorem bytes_app {x y : List Int} (hx : Bytes x) (hy : Bytes y) : Bytes (x ++ y) := fun z hz => (List.mem_append.1 hz).elim (hx z) (hy z)
theorem bytes_put (t : Int) : Bytes (put32 t) := fun x hx => by
  unfold put32 at hx
  simp only [List.mem_cons, List.not_mem_nil, or_false, wrap_u8] at hx
  rcases hx with rfl | rfl | rfl | rfl <;> omega
theorem bytes_next {k : Int} {B p : List Int} (hk : mayK k = true) (hp : Bytes p) : Bytes (nextB k B p) := by
  unfold nextB putB
  rw [if_pos hk]
  have hk' : 1 ≤ k ∧ k ≤ 6 := by simpa [mayK] using hk
  unfold sealB
  refine bytes_app hp (bytes_app (bytes_app ?_ (bytes_put _)) (bytes_put _))
  intro x hx
  simp only [List.mem_cons, List.not_mem_nil, or_false] at hx
  rcases hx with rfl | rfl <;> omega
theorem bytes_rep (n : Nat) : Bytes (List.replicate n 0) := fun x hx => by rw [List.eq_of_mem_replicate hx]; decide
theorem bytes_z54 : Bytes z54 := bytes_rep 54
theorem bytes_cons {x : Int} {l : List Int} (hx : 0 ≤ x ∧ x < 256) (hl : Bytes l) : Bytes (x :: l) := fun y hy => (List.mem_cons.1 hy).elim (fun e => e ▸ hx) (hl y)
theorem bytes_sup : Bytes (sup a b c) := by
  unfold sup
  split
  · rename_i h
    obtain ⟨g1, g2, g3, g4, g5, g6⟩ := geoB_iff.1 h
    exact bytes_cons (by omega) (bytes_cons (by omega) (bytes_cons (by omega) (bytes_cons (by omega) (bytes_cons (by omega) (bytes_cons (by omega) (bytes_cons (by omega) (bytes_cons (by omega) (bytes_cons (by omega) (bytes_cons (by omega) (bytes_rep 44))))))))))
  · exact bytes_z54
theorem bytes_head (g : Int) : Bytes (headB g) := by
  unfold headB
  split
  · rename_i h
    unfold inG at h
    simp at h
    exact bytes_cons (by omega) (bytes_cons (by omega) (bytes_rep 52))
  · exact bytes_z54
theorem bytes_wr {k : Int} {p B : List Int} (hk : mayK k = true) (hp : Bytes p) (hB : Bytes B) : Bytes (wrB k p B) := by
  unfold wrB
  split
  · exact hB
  · exact bytes_next hk hp
theorem bytes_fin {s : Int} {B : List Int} (hB : Bytes B) : Bytes (fnS a b c sc s B) := by
  unfold fnS
  by_cases h2 : s < 2
  · rw [if_pos h2]; exact bytes_wr rfl bytes_sup hB
  · rw [if_neg h2]
    split
    · rcases pl_kinds (a := a) (b := b) (c := c) s (by omega) with e | e | e
      · rw [if_neg (by omega), if_pos e]; exact hB
      · rw [if_pos e]; exact bytes_wr rfl (bytes_head _) hB
      · rw [if_neg (by omega), if_neg (by omega)]
        split
        · exact hB
        · exact bytes_next (by rcases e with e | e <;> rw [e] <;> rfl) bytes_z54
    · exact hB
/-! the shape is found again -/
theorem le16_small {x : Int} (h : 0 ≤ x ∧ x < 256) : le16 x 0 = x := by
  unfold le16
  rw [(shl_eq h).1, (shl_eq (x := 0) (by omega)).2.1]
  have k0 : or32 0 x = 0 + x := or32_add (a := x) 0 (by omega) (by decide) (by omega) (by simp) ⟨by omega, by omega⟩ ⟨by omega, by omega⟩ ⟨by omega, by omega⟩
  have k1 : or32 x (256 * 0) = x + 256 * 0 := or32_add (a := 0) 8 (by omega) (by simpa using h.2) (by omega) (by simp) ⟨by omega, by omega⟩ ⟨by omega, by omega⟩ ⟨by omega, by omega⟩
  rw [k0, Int.zero_add, k1, wrap_u16]
  rw [show (x + 256 * 0) % 65536 = x by omega]
  exact IntWalk.i64_in _ (by omega)
theorem g16_sup (hg : geoB a b c = true) : g16 (sup a b c) 4 = a ∧ g16 (sup a b c) 6 = b ∧ g16 (sup a b c) 8 = c := by
  obtain ⟨g1, g2, g3, g4, g5, g6⟩ := geoB_iff.1 hg
  have e : sup a b c = 83 :: 67 :: 85 :: 80 :: a :: 0 :: b :: 0 :: c :: 0 :: z44 := by unfold sup; rw [if_pos hg]
  rw [e]
  exact ⟨(show le16 a 0 = a from le16_small (by omega)), (show le16 b 0 = b from le16_small (by omega)), (show le16 c 0 = c from le16_small (by omega))⟩
theorem isK_sup (hg : geoB a b c = true) (ht : tot a b c = (m : Int)) {L : List Int} {o : Nat} (h : isB 1 (blkAt L o) = true ∧ t54 (blkAt L o) = sup a b c) : isK L m o = true := by
  obtain ⟨h1, h2⟩ := h
  obtain ⟨e1, e2, e3⟩ := g16_sup hg
  have hp : getP 1 (blkAt L o) = sup a b c := by unfold getP; rw [if_pos h1, h2]
  unfold isK
  rw [hp, e1, e2, e3, ht, getE_is rfl, h1]
  have : supOk (sup a b c) = true := by
    unfold supOk gOk gSup
    rw [e1, e2, e3, hg]; simp
  rw [this]; simp
theorem find_sup (hg : geoB a b c = true) (ht : tot a b c = (m : Int)) {L : List Int} (h : isB 1 (blkAt L 0) = true ∧ t54 (blkAt L 0) = sup a b c) : fndE L m = 0 ∧ fndG L m 4 = a ∧ fndG L m 6 = b ∧ fndG L m 8 = c := by
  have hk := isK_sup hg ht h
  have hm := mul_bd hg
  have ht' := ht
  unfold tot at ht'
  rw [if_pos hg] at ht'
  have ho : fndOk L m = true := by
    unfold fndOk; rw [hk]; simp; omega
  have hp : fndP L m = sup a b c := by
    unfold fndP; rw [if_pos hk]; unfold getP; rw [if_pos h.1, h.2]
  obtain ⟨e1, e2, e3⟩ := g16_sup hg
  unfold fndE fndG sel
  rw [ho, hp, e1, e2, e3]
  simp
theorem find_geo (h : fndOk F m = true) : geoB (fndG F m 4) (fndG F m 6) (fndG F m 8) = true := by
  have h' := h
  unfold fndOk at h
  simp only [Bool.and_eq_true, Bool.or_eq_true] at h
  unfold fndG sel fndP
  rw [h']
  simp only [if_true]
  by_cases h0 : isK F m 0 = true
  · rw [if_pos h0]
    unfold isK supOk gOk at h0
    simp only [Bool.and_eq_true] at h0
    exact h0.2.1.1
  · rw [if_neg h0]
    have h1 := h.2.resolve_left h0
    unfold isK supOk gOk at h1
    simp only [Bool.and_eq_true] at h1
    exact h1.2.1.1
end
end Go.Sx

namespace Go.Sx
open Go.Proofs Go.RowKit
set_option maxRecDepth 100000
noncomputable abbrev pre4_x0 (n : Nat) : Int := if 140 < (↑n : Int) then 140 else (↑n : Int)
noncomputable abbrev pre4_x1 (off : Nat) (cap : Nat) : Nat := if cap = 0 then off else off + 0
noncomputable abbrev pre4_x2 (off : Nat) (cap : Nat) : Nat := (pre4_x1 off cap) - off
noncomputable abbrev pre4_x3 (n : Nat) : Nat := (pre4_x0 n).toNat - 0
noncomputable abbrev pre4_x4 (n : Nat) : Nat := (pre4_x3 n) * 64
noncomputable abbrev pre4_x5 (n : Nat) (off : Nat) (cap : Nat) : Nat := (pre4_x2 off cap) + (pre4_x4 n)
noncomputable abbrev pre4_x6 (n : Nat) : Nat := 0 + (pre4_x3 n)
noncomputable abbrev pre4_x7 (n : Nat) : Bool := fits Try.prog.types[49] (pre4_x6 n)
noncomputable abbrev pre4_x8 (n : Nat) : Int := (↑(pre4_x6 n) : Int)
noncomputable abbrev pre4_x9 (n : Nat) : Int := if 140 < (pre4_x8 n) then 140 else (pre4_x8 n)
noncomputable abbrev pre4_x10 (n : Nat) : Nat := (pre4_x9 n).toNat - 0
noncomputable abbrev pre4_x11 (n : Nat) : Nat := (pre4_x10 n) * 64
noncomputable abbrev pre4_x12 (n : Nat) : Nat := 0 + (pre4_x11 n)
noncomputable abbrev pre4_x13 (n : Nat) : Nat := 0 + (pre4_x4 n)
noncomputable abbrev pre4_x14 (n : Nat) : Nat := 0 + (pre4_x10 n)
noncomputable abbrev pre4_x15 (n : Nat) : Bool := fits Try.prog.types[49] (pre4_x14 n)
noncomputable abbrev pre4_x16 (n : Nat) (off : Nat) (cap : Nat) (L : List Int) : List Int := List.take 0 (List.drop 0 (repl z64 0)) ++ List.take (pre4_x4 n) (List.drop (pre4_x2 off cap) L)
noncomputable abbrev pre4_x17 (n : Nat) (off : Nat) (cap : Nat) (L : List Int) : List Int := List.take 0 (List.drop 0 (repl z64 0)) ++ List.take (pre4_x11 n) (List.drop 0 (pre4_x16 n off cap L))
noncomputable abbrev pre4_x18 (n : Nat) (off : Nat) (cap : Nat) (L : List Int) : Bool := fndE (pre4_x17 n off cap L) (pre4_x14 n) != 0
noncomputable abbrev pre4_x19 (n : Nat) : Nat := (pre4_x14 n) * 64
noncomputable abbrev pre4_x20 (n : Nat) : Nat := 0 + (pre4_x19 n)
noncomputable abbrev pre4_x21 (n : Nat) : Nat := 0 + (pre4_x14 n)
noncomputable abbrev pre4_x22 (n : Nat) : Bool := fits Try.prog.types[49] (pre4_x21 n)
noncomputable def pre4_t (n : Nat) (off : Nat) (cap : Nat) (sc : Int) (L : List Int) (M : S → Prop) (R : X → Option (List AV) → Prop) : Option Prop :=
 (bif decide (0 ≤ (pre4_x0 n) ∧ (pre4_x0 n) ≤ (↑cap : Int)) then (
  (bif decide (off ≤ (pre4_x1 off cap) ∧ (pre4_x5 n off cap) ≤ L.length) then (
   (bif (pre4_x3 n).beq 0 then (
    some ((All [] ∧ R (X.ret) (some [AV.c (Cell.bool true)])))
    ) else (
    (bif decide (0 < (pre4_x6 n) ∧ (pre4_x7 n) = true) then (
     (bif decide (0 ≤ (pre4_x9 n) ∧ (pre4_x9 n) ≤ (pre4_x8 n)) then (
      (bif decide ((pre4_x10 n) ≠ 0) then (
       (bif decide ((pre4_x12 n) ≤ (pre4_x13 n)) then (
        (bif (pre4_x10 n).beq 0 then (
         some ((All [] ∧ R (X.ret) (some [AV.c (Cell.bool true)])))
         ) else (
         (bif decide (0 < (pre4_x14 n) ∧ (pre4_x15 n) = true) then (
          (bif (pre4_x18 n off cap L) then (
           (bif (pre4_x18 n off cap L) then (
            some ((All [(pre4_x17 n off cap L).length = (pre4_x12 n), (pre4_x12 n) = 64 * (pre4_x14 n)] ∧ R (X.ret) (some [AV.c (Cell.bool true)])))
            ) else (
            some ((All [(pre4_x17 n off cap L).length = (pre4_x12 n), (pre4_x12 n) = 64 * (pre4_x14 n)] ∧ M (fgt [0, 1, 5] 150 ⟨ofL [(0, RV.one (AV.c (Cell.slu 2 64 0 (pre4_x6 n)))), (1, RV.one (AV.c (Cell.int IntKind.u32 sc))), (5, RV.one (AV.c Cell.ptr0))], ofL [(0, Blk.win off IntKind.u8 L), (1, Blk.row 49 false none (Body.ints IntKind.u8 [] 0)), (2, Blk.row 49 false (some 64) (Body.ints IntKind.u8 (pre4_x16 n off cap L) (pre4_x13 n))), (3, Blk.row 49 false none (Body.ints IntKind.u8 [] 0)), (4, Blk.row 49 false (some 64) (Body.ints IntKind.u8 (pre4_x17 n off cap L) (pre4_x12 n))), (5, Blk.row 23 false none
  (Body.cells
    [Cell.int IntKind.i64 (fndG (pre4_x17 n off cap L) (pre4_x14 n) 4),
      Cell.int IntKind.i64 (fndG (pre4_x17 n off cap L) (pre4_x14 n) 6),
      Cell.int IntKind.i64 (fndG (pre4_x17 n off cap L) (pre4_x14 n) 8)]))], 6, []⟩)))
            ))
           ) else (
           (bif decide ((pre4_x14 n) ≠ 0) then (
            (bif decide ((pre4_x20 n) ≤ (pre4_x12 n)) then (
             (bif (pre4_x14 n).beq 0 then (
              (bif (pre4_x18 n off cap L) then (
               some ((All [(pre4_x17 n off cap L).length = (pre4_x12 n), (pre4_x12 n) = 64 * (pre4_x14 n)] ∧ R (X.ret) (some [AV.c (Cell.bool false)])))
               ) else (
               some ((All [(pre4_x17 n off cap L).length = (pre4_x12 n), (pre4_x12 n) = 64 * (pre4_x14 n)] ∧ M (fgt [0, 1, 5] 150 ⟨ofL [(0, RV.one (AV.c (Cell.slu 2 64 0 (pre4_x6 n)))), (1, RV.one (AV.c (Cell.int IntKind.u32 sc))), (5, RV.one (AV.c (Cell.ptr 8 0)))], ofL [(0, Blk.win off IntKind.u8 L), (1, Blk.row 49 false none (Body.ints IntKind.u8 [] 0)), (2, Blk.row 49 false (some 64) (Body.ints IntKind.u8 (pre4_x16 n off cap L) (pre4_x13 n))), (3, Blk.row 49 false none (Body.ints IntKind.u8 [] 0)), (4, Blk.row 49 false (some 64) (Body.ints IntKind.u8 (pre4_x17 n off cap L) (pre4_x12 n))), (5, Blk.row 23 false none
  (Body.cells
    [Cell.int IntKind.i64 (fndG (pre4_x17 n off cap L) (pre4_x14 n) 4),
      Cell.int IntKind.i64 (fndG (pre4_x17 n off cap L) (pre4_x14 n) 6),
      Cell.int IntKind.i64 (fndG (pre4_x17 n off cap L) (pre4_x14 n) 8)])), (6, Blk.row 49 false none (Body.ints IntKind.u8 [] 0)), (7, Blk.map []), (8, Blk.row 89 false none
  (Body.cells
    [Cell.int IntKind.i64 (fndG (pre4_x17 n off cap L) (pre4_x14 n) 4),
      Cell.int IntKind.i64 (fndG (pre4_x17 n off cap L) (pre4_x14 n) 6),
      Cell.int IntKind.i64 (fndG (pre4_x17 n off cap L) (pre4_x14 n) 8), Cell.sl 6 0 0 0, Cell.int IntKind.u32 sc,
      Cell.map 7, Cell.int IntKind.i64 0]))], 9, []⟩)))
               ))
              ) else (
              (bif decide (0 < (pre4_x21 n) ∧ (pre4_x22 n) = true) then (
               (bif (pre4_x18 n off cap L) then (
                some ((All [(pre4_x17 n off cap L).length = (pre4_x12 n), (pre4_x12 n) = 64 * (pre4_x14 n)] ∧ R (X.ret) (some [AV.c (Cell.bool false)])))
                ) else (
                some ((All [(pre4_x17 n off cap L).length = (pre4_x12 n), (pre4_x12 n) = 64 * (pre4_x14 n)] ∧ M (fgt [0, 1, 5] 150 ⟨ofL [(0, RV.one (AV.c (Cell.slu 2 64 0 (pre4_x6 n)))), (1, RV.one (AV.c (Cell.int IntKind.u32 sc))), (5, RV.one (AV.c (Cell.ptr 9 0)))], ofL [(0, Blk.win off IntKind.u8 L), (1, Blk.row 49 false none (Body.ints IntKind.u8 [] 0)), (2, Blk.row 49 false (some 64) (Body.ints IntKind.u8 (pre4_x16 n off cap L) (pre4_x13 n))), (3, Blk.row 49 false none (Body.ints IntKind.u8 [] 0)), (4, Blk.row 49 false (some 64) (Body.ints IntKind.u8 (pre4_x17 n off cap L) (pre4_x12 n))), (5, Blk.row 23 false none
  (Body.cells
    [Cell.int IntKind.i64 (fndG (pre4_x17 n off cap L) (pre4_x14 n) 4),
      Cell.int IntKind.i64 (fndG (pre4_x17 n off cap L) (pre4_x14 n) 6),
      Cell.int IntKind.i64 (fndG (pre4_x17 n off cap L) (pre4_x14 n) 8)])), (6, Blk.row 49 false none (Body.ints IntKind.u8 [] 0)), (7, Blk.row 49 false (some 64)
  (Body.ints IntKind.u8
    (List.take 0 (List.drop 0 (repl z64 0)) ++ List.take (pre4_x19 n) (List.drop 0 (pre4_x17 n off cap L)))
    (pre4_x20 n))), (8, Blk.map []), (9, Blk.row 89 false none
  (Body.cells
    [Cell.int IntKind.i64 (fndG (pre4_x17 n off cap L) (pre4_x14 n) 4),
      Cell.int IntKind.i64 (fndG (pre4_x17 n off cap L) (pre4_x14 n) 6),
      Cell.int IntKind.i64 (fndG (pre4_x17 n off cap L) (pre4_x14 n) 8), Cell.slu 7 64 0 (pre4_x21 n),
      Cell.int IntKind.u32 sc, Cell.map 8, Cell.int IntKind.i64 0]))], 10, []⟩)))
                ))
               ) else none)
              ))
             ) else none)
            ) else none)
           ))
          ) else none)
         ))
        ) else none)
       ) else none)
      ) else none)
     ) else none)
    ))
   ) else none)
  ) else none)
theorem pre4_tree (n : Nat) (off : Nat) (cap : Nat) (sc : Int) (L : List Int) (M : S → Prop) (R : X → Option (List AV) → Prop) : pre4 n off cap sc L M R = pre4_t n off cap sc L M R := by kernel_rfl
noncomputable abbrev mid4_x0 (m : Nat) : Nat := m * 64
noncomputable abbrev mid4_x1 (m : Nat) : Nat := 0 + (mid4_x0 m)
noncomputable abbrev mid4_x2 (G : List Int) (m : Nat) (a : Int) (b : Int) (c : Int) (sc : Int) : List Int := (runS a b c m sc (G, [], 0)).fst
noncomputable abbrev mid4_x3 (m : Nat) : Nat := 0 + m
noncomputable abbrev mid4_x4 (m : Nat) : Bool := fits Try.prog.types[49] (mid4_x3 m)
noncomputable def mid4_t (off : Nat) (L : List Int) (F2 : List Int) (p : Int) (q : Int) (r : Int) (F : List Int) (G : List Int) (m : Nat) (N : Nat) (a : Int) (b : Int) (c : Int) (sc : Int) (M : S → Prop) (R : X → Option (List AV) → Prop) : Option Prop :=
 (bif decide (m ≠ 0) then (
  (bif decide ((mid4_x1 m) ≤ N) then (
   (bif m.beq 0 then (
    some ((All [G.length = N, N = 64 * m, geoB a b c = true] ∧ M (fgt [0, 1, 5, 7] 150 ⟨ofL [(0, RV.one (AV.c (Cell.slu 2 64 0 m))), (1, RV.one (AV.c (Cell.int IntKind.u32 sc))), (5, RV.one (AV.c (Cell.ptr 9 0))), (7, RV.one (AV.c (Cell.sl 10 0 0 0)))], ofL [(0, Blk.win off IntKind.u8 L), (1, Blk.row 49 false none (Body.ints IntKind.u8 [] 0)), (2, Blk.row 49 false (some 64) (Body.ints IntKind.u8 F N)), (3, Blk.row 49 false none (Body.ints IntKind.u8 [] 0)), (4, Blk.row 49 false (some 64) (Body.ints IntKind.u8 F2 N)), (5, Blk.row 23 false none (Body.cells [Cell.int IntKind.i64 p, Cell.int IntKind.i64 q, Cell.int IntKind.i64 r])), (6, Blk.row 49 false none (Body.ints IntKind.u8 [] 0)), (7, Blk.row 49 false (some 64) (Body.ints IntKind.u8 (mid4_x2 G m a b c sc) N)), (8, Blk.mapI none (runS a b c m sc (G, [], 0)).snd.fst), (9, Blk.row 89 false none
  (Body.cells
    [Cell.int IntKind.i64 a, Cell.int IntKind.i64 b, Cell.int IntKind.i64 c, Cell.slu 7 64 0 m, Cell.int IntKind.u32 sc,
      Cell.map 8, Cell.int IntKind.i64 (runS a b c m sc (G, [], 0)).snd.snd])), (10, Blk.row 49 false none (Body.ints IntKind.u8 [] 0))], 11, []⟩)))
    ) else (
    (bif decide (0 < (mid4_x3 m) ∧ (mid4_x4 m) = true) then (
     some ((All [G.length = N, N = 64 * m, geoB a b c = true] ∧ M (s4b off L F2 p q r F (mid4_x2 G m a b c sc) (List.take 0 (List.drop 0 (repl z64 0)) ++ List.take (mid4_x0 m) (List.drop 0 (mid4_x2 G m a b c sc))) m N a b c sc (runS a b c m sc (G, [], 0)).snd.snd (.mapI none (runS a b c m sc (G, [], 0)).snd.fst) (mid4_x3 m) (mid4_x1 m))))
     ) else none)
    ))
   ) else none)
  ) else none)
theorem mid4_tree (off : Nat) (L : List Int) (F2 : List Int) (p : Int) (q : Int) (r : Int) (F : List Int) (G : List Int) (m : Nat) (N : Nat) (a : Int) (b : Int) (c : Int) (sc : Int) (M : S → Prop) (R : X → Option (List AV) → Prop) : mid4 off L F2 p q r F G m N a b c sc M R = mid4_t off L F2 p q r F G m N a b c sc M R := by kernel_rfl
noncomputable def ini4_t (off : Nat) (L : List Int) (F2 : List Int) (p : Int) (q : Int) (r : Int) (F : List Int) (G : List Int) (H : List Int) (m : Nat) (N : Nat) (a : Int) (b : Int) (c : Int) (sc : Int) (out : Int) (l : List (Int × Int)) (Q : X → S → Prop) : Option Prop :=
 some ((All [] ∧ ((true = true) ∧ Q (X.normal) (s4c off L F2 p q r F G H m N a b c sc out 0 (.mapI none l)))))
theorem ini4_tree (off : Nat) (L : List Int) (F2 : List Int) (p : Int) (q : Int) (r : Int) (F : List Int) (G : List Int) (H : List Int) (m : Nat) (N : Nat) (a : Int) (b : Int) (c : Int) (sc : Int) (out : Int) (l : List (Int × Int)) (Q : X → S → Prop) : ini4 off L F2 p q r F G H m N a b c sc out l Q = ini4_t off L F2 p q r F G H m N a b c sc out l Q := by kernel_rfl
noncomputable def rndA_t (off : Nat) (L : List Int) (F2 : List Int) (p : Int) (q : Int) (r : Int) (F : List Int) (G : List Int) (H : List Int) (m : Nat) (N : Nat) (a : Int) (b : Int) (c : Int) (sc : Int) (out : Int) (i : Int) (l : List (Int × Int)) (Q : X → S → Prop) : Option Prop :=
 (bif decide (i < (↑m : Int)) then (
  some ((All [] ∧ ((true = true) ∧ Q (X.normal) (s4c off L F2 p q r F G H m N a b c sc out i (.mapI none l)))))
  ) else (
  some ((All [] ∧ ((true = true) ∧ Q (X.exit 0) (s4c off L F2 p q r F G H m N a b c sc out i (.mapI none l)))))
  ))
theorem rndA_tree (off : Nat) (L : List Int) (F2 : List Int) (p : Int) (q : Int) (r : Int) (F : List Int) (G : List Int) (H : List Int) (m : Nat) (N : Nat) (a : Int) (b : Int) (c : Int) (sc : Int) (out : Int) (i : Int) (l : List (Int × Int)) (Q : X → S → Prop) : rndA off L F2 p q r F G H m N a b c sc out i l Q = rndA_t off L F2 p q r F G H m N a b c sc out i l Q := by kernel_rfl
noncomputable def rndB1_t (off : Nat) (L : List Int) (F2 : List Int) (p : Int) (q : Int) (r : Int) (F : List Int) (G : List Int) (H : List Int) (m : Nat) (N : Nat) (a : Int) (b : Int) (c : Int) (sc : Int) (out : Int) (i : Int) (l : List (Int × Int)) (Q : X → S → Prop) : Option Prop :=
 some ((All [] ∧ Q (X.normal) (s4e off L F2 p q r F G H m N a b c sc out i l (pl a b c i).1 (pl a b c i).2.1 (pl a b c i).2.2.1)))
theorem rndB1_tree (off : Nat) (L : List Int) (F2 : List Int) (p : Int) (q : Int) (r : Int) (F : List Int) (G : List Int) (H : List Int) (m : Nat) (N : Nat) (a : Int) (b : Int) (c : Int) (sc : Int) (out : Int) (i : Int) (l : List (Int × Int)) (Q : X → S → Prop) : rndB1 off L F2 p q r F G H m N a b c sc out i l Q = rndB1_t off L F2 p q r F G H m N a b c sc out i l Q := by kernel_rfl
noncomputable def rndB2_t (off : Nat) (L : List Int) (F2 : List Int) (p : Int) (q : Int) (r : Int) (F : List Int) (G : List Int) (H : List Int) (m : Nat) (N : Nat) (a : Int) (b : Int) (c : Int) (sc : Int) (out : Int) (i : Int) (l : List (Int × Int)) (wk : Int) (wg : Int) (wi : Int) (Q : X → S → Prop) : Option Prop :=
 (bif decide (i < 2) then (
  some ((All [] ∧ Q (X.normal) (s4d off L F2 p q r F G H m N a b c sc out i l wk wg wi true)))
  ) else (
  some ((All [] ∧ Q (X.normal) (s4d off L F2 p q r F G H m N a b c sc out i l wk wg wi (inS a sc wg))))
  ))
theorem rndB2_tree (off : Nat) (L : List Int) (F2 : List Int) (p : Int) (q : Int) (r : Int) (F : List Int) (G : List Int) (H : List Int) (m : Nat) (N : Nat) (a : Int) (b : Int) (c : Int) (sc : Int) (out : Int) (i : Int) (l : List (Int × Int)) (wk : Int) (wg : Int) (wi : Int) (Q : X → S → Prop) : rndB2 off L F2 p q r F G H m N a b c sc out i l wk wg wi Q = rndB2_t off L F2 p q r F G H m N a b c sc out i l wk wg wi Q := by kernel_rfl
noncomputable abbrev rndCt_x0 (m : Nat) : Bool := decide (m ≠ 0)
noncomputable abbrev rndCt_x1 (m : Nat) (i : Int) : Bool := decide (0 ≤ i ∧ i < (↑m : Int))
noncomputable abbrev rndCt_x2 (i : Int) : Nat := 0 + i.toNat * 64
noncomputable abbrev rndCt_x3 (i : Int) : Nat := (rndCt_x2 i) + 64
noncomputable abbrev rndCt_x4 (N : Nat) (i : Int) : Bool := decide ((rndCt_x3 i) ≤ N)
noncomputable abbrev rndCt_x5 (H : List Int) (i : Int) : List Int := List.take 64 (List.drop (rndCt_x2 i) H)
noncomputable abbrev rndCt_x6 (wk : Int) : Bool := wk == 0
noncomputable abbrev rndCt_x7 (F : List Int) (H : List Int) (i : Int) : Bool := !(rndCt_x5 H i) == List.take 64 (List.drop (rndCt_x2 i) F)
noncomputable def rndCt_t (off : Nat) (L : List Int) (F2 : List Int) (p : Int) (q : Int) (r : Int) (F : List Int) (G : List Int) (H : List Int) (m : Nat) (N : Nat) (a : Int) (b : Int) (c : Int) (sc : Int) (out : Int) (i : Int) (l : List (Int × Int)) (wk : Int) (wg : Int) (wi : Int) (Q : X → S → Prop) : Option Prop :=
 (bif wk != 0 then (
  (bif (rndCt_x0 m) then (
   (bif (rndCt_x1 m i) then (
    (bif (rndCt_x4 N i) then (
     (bif kindB (rndCt_x5 H i) != wk then (
      some ((All [Bytes (rndCt_x5 H i)] ∧ False ))
      ) else (
      (bif (rndCt_x6 wk) then (
       (bif (rndCt_x0 m) then (
        (bif (rndCt_x1 m i) then (
         (bif (rndCt_x4 N i) then (
          (bif (rndCt_x0 m) then (
           (bif (rndCt_x1 m i) then (
            (bif (rndCt_x4 N i) then (
             (bif (rndCt_x7 F H i) then (
              some ((All [Bytes (rndCt_x5 H i)] ∧ False ))
              ) else (
              some ((All [Bytes (rndCt_x5 H i)] ∧ Q (X.normal) (s4d off L F2 p q r F G H m N a b c sc out i l wk wg wi true)))
              ))
             ) else none)
            ) else none)
           ) else none)
          ) else none)
         ) else none)
        ) else none)
       ) else (
       some ((All [Bytes (rndCt_x5 H i)] ∧ Q (X.normal) (s4d off L F2 p q r F G H m N a b c sc out i l wk wg wi true)))
       ))
      ))
     ) else none)
    ) else none)
   ) else none)
  ) else (
  (bif (rndCt_x6 wk) then (
   (bif (rndCt_x0 m) then (
    (bif (rndCt_x1 m i) then (
     (bif (rndCt_x4 N i) then (
      (bif (rndCt_x0 m) then (
       (bif (rndCt_x1 m i) then (
        (bif (rndCt_x4 N i) then (
         (bif (rndCt_x7 F H i) then (
          some ((All [] ∧ False ))
          ) else (
          some ((All [] ∧ Q (X.normal) (s4d off L F2 p q r F G H m N a b c sc out i l wk wg wi true)))
          ))
         ) else none)
        ) else none)
       ) else none)
      ) else none)
     ) else none)
    ) else none)
   ) else (
   some ((All [] ∧ Q (X.normal) (s4d off L F2 p q r F G H m N a b c sc out i l wk wg wi true)))
   ))
  ))
theorem rndCt_tree (off : Nat) (L : List Int) (F2 : List Int) (p : Int) (q : Int) (r : Int) (F : List Int) (G : List Int) (H : List Int) (m : Nat) (N : Nat) (a : Int) (b : Int) (c : Int) (sc : Int) (out : Int) (i : Int) (l : List (Int × Int)) (wk : Int) (wg : Int) (wi : Int) (Q : X → S → Prop) : rndCt off L F2 p q r F G H m N a b c sc out i l wk wg wi Q = rndCt_t off L F2 p q r F G H m N a b c sc out i l wk wg wi Q := by kernel_rfl
noncomputable abbrev rndCf_x0 (m : Nat) : Bool := decide (m ≠ 0)
noncomputable abbrev rndCf_x1 (m : Nat) (i : Int) : Bool := decide (0 ≤ i ∧ i < (↑m : Int))
noncomputable abbrev rndCf_x2 (i : Int) : Nat := 0 + i.toNat * 64
noncomputable abbrev rndCf_x3 (i : Int) : Nat := (rndCf_x2 i) + 64
noncomputable abbrev rndCf_x4 (N : Nat) (i : Int) : Bool := decide ((rndCf_x3 i) ≤ N)
noncomputable abbrev rndCf_x5 (F : List Int) (H : List Int) (i : Int) : Bool := !List.take 64 (List.drop (rndCf_x2 i) H) == List.take 64 (List.drop (rndCf_x2 i) F)
noncomputable def rndCf_t (off : Nat) (L : List Int) (F2 : List Int) (p : Int) (q : Int) (r : Int) (F : List Int) (G : List Int) (H : List Int) (m : Nat) (N : Nat) (a : Int) (b : Int) (c : Int) (sc : Int) (out : Int) (i : Int) (l : List (Int × Int)) (wk : Int) (wg : Int) (wi : Int) (Q : X → S → Prop) : Option Prop :=
 (bif (rndCf_x0 m) then (
  (bif (rndCf_x1 m i) then (
   (bif (rndCf_x4 N i) then (
    (bif (rndCf_x0 m) then (
     (bif (rndCf_x1 m i) then (
      (bif (rndCf_x4 N i) then (
       (bif (rndCf_x5 F H i) then (
        some ((All [] ∧ False ))
        ) else (
        (bif wk == 0 then (
         (bif (rndCf_x0 m) then (
          (bif (rndCf_x1 m i) then (
           (bif (rndCf_x4 N i) then (
            (bif (rndCf_x0 m) then (
             (bif (rndCf_x1 m i) then (
              (bif (rndCf_x4 N i) then (
               (bif (rndCf_x5 F H i) then (
                some ((All [] ∧ False ))
                ) else (
                some ((All [] ∧ Q (X.normal) (s4d off L F2 p q r F G H m N a b c sc out i l wk wg wi false)))
                ))
               ) else none)
              ) else none)
             ) else none)
            ) else none)
           ) else none)
          ) else none)
         ) else (
         some ((All [] ∧ Q (X.normal) (s4d off L F2 p q r F G H m N a b c sc out i l wk wg wi false)))
         ))
        ))
       ) else none)
      ) else none)
     ) else none)
    ) else none)
   ) else none)
  ) else none)
theorem rndCf_tree (off : Nat) (L : List Int) (F2 : List Int) (p : Int) (q : Int) (r : Int) (F : List Int) (G : List Int) (H : List Int) (m : Nat) (N : Nat) (a : Int) (b : Int) (c : Int) (sc : Int) (out : Int) (i : Int) (l : List (Int × Int)) (wk : Int) (wg : Int) (wi : Int) (Q : X → S → Prop) : rndCf off L F2 p q r F G H m N a b c sc out i l wk wg wi Q = rndCf_t off L F2 p q r F G H m N a b c sc out i l wk wg wi Q := by kernel_rfl
noncomputable abbrev rndD_x0 (m : Nat) : Bool := decide (m ≠ 0)
noncomputable abbrev rndD_x1 (m : Nat) (i : Int) : Bool := decide (0 ≤ i ∧ i < (↑m : Int))
noncomputable abbrev rndD_x2 (i : Int) : Nat := 0 + i.toNat * 64
noncomputable abbrev rndD_x3 (i : Int) : Nat := (rndD_x2 i) + 64
noncomputable abbrev rndD_x4 (N : Nat) (i : Int) : Bool := decide ((rndD_x3 i) ≤ N)
noncomputable abbrev rndD_x5 (F : List Int) (i : Int) : List Int := List.take 64 (List.drop (rndD_x2 i) F)
noncomputable abbrev rndD_x6 (F : List Int) (i : Int) (wk : Int) : Bool := kindB (rndD_x5 F i) == wk
noncomputable abbrev rndD_x7 (F : List Int) (H : List Int) (i : Int) : Bool := !List.take 64 (List.drop (rndD_x2 i) H) == (rndD_x5 F i)
noncomputable def rndD_t (off : Nat) (L : List Int) (F2 : List Int) (p : Int) (q : Int) (r : Int) (F : List Int) (G : List Int) (H : List Int) (m : Nat) (N : Nat) (a : Int) (b : Int) (c : Int) (sc : Int) (out : Int) (i : Int) (l : List (Int × Int)) (wk : Int) (wg : Int) (wi : Int) (inn : Bool) (Q : X → S → Prop) : Option Prop :=
 (bif wk == 3 then (
  (bif (rndD_x0 m) then (
   (bif (rndD_x1 m i) then (
    (bif (rndD_x4 N i) then (
     (bif (rndD_x6 F i wk) then (
      (bif (rndD_x0 m) then (
       (bif (rndD_x1 m i) then (
        (bif (rndD_x4 N i) then (
         (bif (rndD_x0 m) then (
          (bif (rndD_x1 m i) then (
           (bif (rndD_x4 N i) then (
            (bif (rndD_x7 F H i) then (
             some ((All [Bytes (rndD_x5 F i)] ∧ False ))
             ) else (
             some ((All [Bytes (rndD_x5 F i)] ∧ Q (X.normal) (s4f off L F2 p q r F G H m N a b c sc out i l wk wg wi)))
             ))
            ) else none)
           ) else none)
          ) else none)
         ) else none)
        ) else none)
       ) else none)
      ) else (
      some ((All [Bytes (rndD_x5 F i)] ∧ Q (X.normal) (s4f off L F2 p q r F G H m N a b c sc out i l wk wg wi)))
      ))
     ) else none)
    ) else none)
   ) else none)
  ) else (
  (bif wk == 4 then (
   (bif (rndD_x0 m) then (
    (bif (rndD_x1 m i) then (
     (bif (rndD_x4 N i) then (
      (bif (rndD_x6 F i wk) then (
       (bif (rndD_x0 m) then (
        (bif (rndD_x1 m i) then (
         (bif (rndD_x4 N i) then (
          (bif (rndD_x0 m) then (
           (bif (rndD_x1 m i) then (
            (bif (rndD_x4 N i) then (
             (bif (rndD_x7 F H i) then (
              some ((All [Bytes (rndD_x5 F i)] ∧ False ))
              ) else (
              some ((All [Bytes (rndD_x5 F i)] ∧ Q (X.normal) (s4f off L F2 p q r F G H m N a b c sc out i l wk wg wi)))
              ))
             ) else none)
            ) else none)
           ) else none)
          ) else none)
         ) else none)
        ) else none)
       ) else (
       some ((All [Bytes (rndD_x5 F i)] ∧ Q (X.normal) (s4f off L F2 p q r F G H m N a b c sc out i l wk wg wi)))
       ))
      ) else none)
     ) else none)
    ) else none)
   ) else (
   some ((All [] ∧ Q (X.normal) (s4f off L F2 p q r F G H m N a b c sc out i l wk wg wi)))
   ))
  ))
theorem rndD_tree (off : Nat) (L : List Int) (F2 : List Int) (p : Int) (q : Int) (r : Int) (F : List Int) (G : List Int) (H : List Int) (m : Nat) (N : Nat) (a : Int) (b : Int) (c : Int) (sc : Int) (out : Int) (i : Int) (l : List (Int × Int)) (wk : Int) (wg : Int) (wi : Int) (inn : Bool) (Q : X → S → Prop) : rndD off L F2 p q r F G H m N a b c sc out i l wk wg wi inn Q = rndD_t off L F2 p q r F G H m N a b c sc out i l wk wg wi inn Q := by kernel_rfl
noncomputable def rndE_t (off : Nat) (L : List Int) (F2 : List Int) (p : Int) (q : Int) (r : Int) (F : List Int) (G : List Int) (H : List Int) (m : Nat) (N : Nat) (a : Int) (b : Int) (c : Int) (sc : Int) (out : Int) (i : Int) (l : List (Int × Int)) (Q : X → S → Prop) : Option Prop :=
 some ((All [] ∧ ((true = true) ∧ Q (X.normal) (s4c off L F2 p q r F G H m N a b c sc out (IntKind.i64.wrap (i + 1)) (.mapI none l)))))
theorem rndE_tree (off : Nat) (L : List Int) (F2 : List Int) (p : Int) (q : Int) (r : Int) (F : List Int) (G : List Int) (H : List Int) (m : Nat) (N : Nat) (a : Int) (b : Int) (c : Int) (sc : Int) (out : Int) (i : Int) (l : List (Int × Int)) (Q : X → S → Prop) : rndE off L F2 p q r F G H m N a b c sc out i l Q = rndE_t off L F2 p q r F G H m N a b c sc out i l Q := by kernel_rfl
noncomputable abbrev end4_x0 (m : Nat) : Nat := m * 64
noncomputable abbrev end4_x1 (m : Nat) : Nat := 0 + (end4_x0 m)
noncomputable abbrev end4_x2 (m : Nat) : Nat := 0 + m
noncomputable abbrev end4_x3 (m : Nat) : Bool := fits Try.prog.types[49] (end4_x2 m)
noncomputable abbrev end4_x4 (G : List Int) (m : Nat) : List Int := List.take 0 (List.drop 0 (repl z64 0)) ++ List.take (end4_x0 m) (List.drop 0 G)
noncomputable abbrev end4_x5 (G : List Int) (m : Nat) : Int := fndE (end4_x4 G m) (end4_x2 m)
noncomputable abbrev end4_x6 (m : Nat) : Nat := (end4_x2 m) * 64
noncomputable abbrev end4_x7 (m : Nat) : Nat := 0 + (end4_x6 m)
noncomputable abbrev end4_x8 (m : Nat) : Nat := 0 + (end4_x2 m)
noncomputable abbrev end4_x9 (m : Nat) : Bool := fits Try.prog.types[49] (end4_x8 m)
noncomputable def end4_t (off : Nat) (L : List Int) (F2 : List Int) (p : Int) (q : Int) (r : Int) (F : List Int) (G : List Int) (H : List Int) (m : Nat) (N : Nat) (a : Int) (b : Int) (c : Int) (sc : Int) (out : Int) (i : Int) (l : List (Int × Int)) (M : S → Prop) (R : X → Option (List AV) → Prop) : Option Prop :=
 (bif decide (m ≠ 0) then (
  (bif decide ((end4_x1 m) ≤ N) then (
   (bif m.beq 0 then (
    some ((All [] ∧ M (fgt [5, 12, 13] 150 ⟨ofL [(5, RV.one (AV.c (Cell.ptr 9 0))), (12, RV.one (AV.c Cell.ptr0)), (13, RV.one (AV.c (Cell.int IntKind.i64 22)))], ofL [(0, Blk.win off IntKind.u8 L), (1, Blk.row 49 false none (Body.ints IntKind.u8 [] 0)), (2, Blk.row 49 false (some 64) (Body.ints IntKind.u8 F N)), (3, Blk.row 49 false none (Body.ints IntKind.u8 [] 0)), (4, Blk.row 49 false (some 64) (Body.ints IntKind.u8 F2 N)), (5, Blk.row 23 false none (Body.cells [Cell.int IntKind.i64 p, Cell.int IntKind.i64 q, Cell.int IntKind.i64 r])), (6, Blk.row 49 false none (Body.ints IntKind.u8 [] 0)), (7, Blk.row 49 false (some 64) (Body.ints IntKind.u8 G N)), (8, Blk.mapI none l), (9, Blk.row 89 false none
  (Body.cells
    [Cell.int IntKind.i64 a, Cell.int IntKind.i64 b, Cell.int IntKind.i64 c, Cell.slu 7 64 0 m, Cell.int IntKind.u32 sc,
      Cell.map 8, Cell.int IntKind.i64 out])), (10, Blk.row 49 false none (Body.ints IntKind.u8 [] 0)), (11, Blk.row 49 false (some 64) (Body.ints IntKind.u8 H N)), (12, Blk.row 49 false none (Body.ints IntKind.u8 [] 0)), (13, Blk.row 23 false none (Body.cells [Cell.int IntKind.i64 0, Cell.int IntKind.i64 0, Cell.int IntKind.i64 0]))], 14, []⟩)))
    ) else (
    (bif decide (0 < (end4_x2 m) ∧ (end4_x3 m) = true) then (
     (bif (end4_x5 G m) != 0 then (
      some ((All [(end4_x4 G m).length = (end4_x1 m), (end4_x1 m) = 64 * (end4_x2 m)] ∧ M (fgt [5, 12, 13] 150 ⟨ofL [(5, RV.one (AV.c (Cell.ptr 9 0))), (12, RV.one (AV.c Cell.ptr0)), (13, RV.one (AV.c (Cell.int IntKind.i64 (end4_x5 G m))))], ofL [(0, Blk.win off IntKind.u8 L), (1, Blk.row 49 false none (Body.ints IntKind.u8 [] 0)), (2, Blk.row 49 false (some 64) (Body.ints IntKind.u8 F N)), (3, Blk.row 49 false none (Body.ints IntKind.u8 [] 0)), (4, Blk.row 49 false (some 64) (Body.ints IntKind.u8 F2 N)), (5, Blk.row 23 false none (Body.cells [Cell.int IntKind.i64 p, Cell.int IntKind.i64 q, Cell.int IntKind.i64 r])), (6, Blk.row 49 false none (Body.ints IntKind.u8 [] 0)), (7, Blk.row 49 false (some 64) (Body.ints IntKind.u8 G N)), (8, Blk.mapI none l), (9, Blk.row 89 false none
  (Body.cells
    [Cell.int IntKind.i64 a, Cell.int IntKind.i64 b, Cell.int IntKind.i64 c, Cell.slu 7 64 0 m, Cell.int IntKind.u32 sc,
      Cell.map 8, Cell.int IntKind.i64 out])), (10, Blk.row 49 false none (Body.ints IntKind.u8 [] 0)), (11, Blk.row 49 false (some 64) (Body.ints IntKind.u8 H N)), (12, Blk.row 49 false none (Body.ints IntKind.u8 [] 0)), (13, Blk.row 49 false (some 64) (Body.ints IntKind.u8 (end4_x4 G m) (end4_x1 m))), (14, Blk.row 23 false none
  (Body.cells
    [Cell.int IntKind.i64 (fndG (end4_x4 G m) (end4_x2 m) 4),
      Cell.int IntKind.i64 (fndG (end4_x4 G m) (end4_x2 m) 6),
      Cell.int IntKind.i64 (fndG (end4_x4 G m) (end4_x2 m) 8)]))], 15, []⟩)))
      ) else (
      (bif decide ((end4_x2 m) ≠ 0) then (
       (bif decide ((end4_x7 m) ≤ (end4_x1 m)) then (
        (bif (end4_x2 m).beq 0 then (
         some ((All [(end4_x4 G m).length = (end4_x1 m), (end4_x1 m) = 64 * (end4_x2 m)] ∧ M (fgt [5, 12, 13] 150 ⟨ofL [(5, RV.one (AV.c (Cell.ptr 9 0))), (12, RV.one (AV.c (Cell.ptr 17 0))), (13, RV.one (AV.c (Cell.int IntKind.i64 (end4_x5 G m))))], ofL [(0, Blk.win off IntKind.u8 L), (1, Blk.row 49 false none (Body.ints IntKind.u8 [] 0)), (2, Blk.row 49 false (some 64) (Body.ints IntKind.u8 F N)), (3, Blk.row 49 false none (Body.ints IntKind.u8 [] 0)), (4, Blk.row 49 false (some 64) (Body.ints IntKind.u8 F2 N)), (5, Blk.row 23 false none (Body.cells [Cell.int IntKind.i64 p, Cell.int IntKind.i64 q, Cell.int IntKind.i64 r])), (6, Blk.row 49 false none (Body.ints IntKind.u8 [] 0)), (7, Blk.row 49 false (some 64) (Body.ints IntKind.u8 G N)), (8, Blk.mapI none l), (9, Blk.row 89 false none
  (Body.cells
    [Cell.int IntKind.i64 a, Cell.int IntKind.i64 b, Cell.int IntKind.i64 c, Cell.slu 7 64 0 m, Cell.int IntKind.u32 sc,
      Cell.map 8, Cell.int IntKind.i64 out])), (10, Blk.row 49 false none (Body.ints IntKind.u8 [] 0)), (11, Blk.row 49 false (some 64) (Body.ints IntKind.u8 H N)), (12, Blk.row 49 false none (Body.ints IntKind.u8 [] 0)), (13, Blk.row 49 false (some 64) (Body.ints IntKind.u8 (end4_x4 G m) (end4_x1 m))), (14, Blk.row 23 false none
  (Body.cells
    [Cell.int IntKind.i64 (fndG (end4_x4 G m) (end4_x2 m) 4),
      Cell.int IntKind.i64 (fndG (end4_x4 G m) (end4_x2 m) 6),
      Cell.int IntKind.i64 (fndG (end4_x4 G m) (end4_x2 m) 8)])), (15, Blk.row 49 false none (Body.ints IntKind.u8 [] 0)), (16, Blk.map []), (17, Blk.row 89 false none
  (Body.cells
    [Cell.int IntKind.i64 (fndG (end4_x4 G m) (end4_x2 m) 4),
      Cell.int IntKind.i64 (fndG (end4_x4 G m) (end4_x2 m) 6),
      Cell.int IntKind.i64 (fndG (end4_x4 G m) (end4_x2 m) 8), Cell.sl 15 0 0 0, Cell.int IntKind.u32 sc,
      Cell.map 16, Cell.int IntKind.i64 0]))], 18, []⟩)))
         ) else (
         (bif decide (0 < (end4_x8 m) ∧ (end4_x9 m) = true) then (
          some ((All [(end4_x4 G m).length = (end4_x1 m), (end4_x1 m) = 64 * (end4_x2 m)] ∧ M (s4g off L F2 p q r F G H m N a b c sc out l (end4_x4 G m) (List.take 0 (List.drop 0 (repl z64 0)) ++ List.take (end4_x6 m) (List.drop 0 (end4_x4 G m))) (end4_x8 m) (end4_x1 m) (end4_x7 m) (fndG (end4_x4 G m) (end4_x2 m) 4) (fndG (end4_x4 G m) (end4_x2 m) 6) (fndG (end4_x4 G m) (end4_x2 m) 8) (end4_x5 G m))))
          ) else none)
         ))
        ) else none)
       ) else none)
      ))
     ) else none)
    ))
   ) else none)
  ) else none)
theorem end4_tree (off : Nat) (L : List Int) (F2 : List Int) (p : Int) (q : Int) (r : Int) (F : List Int) (G : List Int) (H : List Int) (m : Nat) (N : Nat) (a : Int) (b : Int) (c : Int) (sc : Int) (out : Int) (i : Int) (l : List (Int × Int)) (M : S → Prop) (R : X → Option (List AV) → Prop) : end4 off L F2 p q r F G H m N a b c sc out i l M R = end4_t off L F2 p q r F G H m N a b c sc out i l M R := by kernel_rfl
noncomputable def fin4_t (off : Nat) (L : List Int) (F2 : List Int) (p : Int) (q : Int) (r : Int) (F : List Int) (G : List Int) (H : List Int) (m : Nat) (N : Nat) (a : Int) (b : Int) (c : Int) (sc : Int) (out : Int) (l : List (Int × Int)) (K : List Int) (Y : List Int) (mY : Nat) (NK : Nat) (NY : Nat) (a' : Int) (b' : Int) (c' : Int) (err : Int) (R : X → Option (List AV) → Prop) : Option Prop :=
 (bif err != 0 then (
  some ((All [] ∧ R (X.ret) (some [AV.c (Cell.bool false)])))
  ) else (
  some ((All [(runS a' b' c' mY sc (Y, [], 0)).snd.fst = [], Y.length = NY, NY = 64 * mY, geoB a' b' c' = true] ∧ R (X.ret) (some [AV.c (Cell.bool (out == 0))])))
  ))
theorem fin4_tree (off : Nat) (L : List Int) (F2 : List Int) (p : Int) (q : Int) (r : Int) (F : List Int) (G : List Int) (H : List Int) (m : Nat) (N : Nat) (a : Int) (b : Int) (c : Int) (sc : Int) (out : Int) (l : List (Int × Int)) (K : List Int) (Y : List Int) (mY : Nat) (NK : Nat) (NY : Nat) (a' : Int) (b' : Int) (c' : Int) (err : Int) (R : X → Option (List AV) → Prop) : fin4 off L F2 p q r F G H m N a b c sc out l K Y mY NK NY a' b' c' err R = fin4_t off L F2 p q r F G H m N a b c sc out l K Y mY NK NY a' b' c' err R := by kernel_rfl
end Go.Sx
