/-
  Parts of the executor Sx over the model's code (any program), or of this seat's walks: words and proofs that the row's text uses.
-/
import Derived.Test.YtganobhodimjnaaJ1
namespace Go.Sx
open Go.Proofs Go.RowKit
set_option maxRecDepth 100000
noncomputable abbrev r63_x0 (n : Nat) : Nat := 64 * n
noncomputable abbrev r63_x1 (a : Int) (b : Int) (c : Int) (i : Int) : Int := sel (inoB a b c i) (inoP b c i).fst
noncomputable abbrev r63_x2 (a : Int) (b : Int) (c : Int) (L : List Int) (n : Nat) (i : Int) : List Int := over z54 0
  (List.take 54 (List.drop 0 (over z54 0 (List.take 54 (List.drop 0 (over z54 0 (ldP L n (r63_x1 a b c i) 4)))))))
noncomputable abbrev r63_x3 (a : Int) (b : Int) (c : Int) (i : Int) : Int := sel (inoB a b c i) (inoP b c i).snd.fst
noncomputable abbrev r63_x4 (a : Int) (b : Int) (c : Int) (L : List Int) (n : Nat) (i : Int) (k : Int) (l : Int) (s : Int) (d0 : Int) (d1 : Int) (d2 : Int) (d3 : Int) (sg : Int) (db : Int) : List Int := List.take 54
  (List.drop 0
    (over (r63_x2 a b c L n i) 0
      (over (List.take 54 (List.drop 0 (r63_x2 a b c L n i))) (18 * (r63_x3 a b c i).toNat)
        (enc18 { k := k, l := l, s := s, d0 := d0, d1 := d1, d2 := d2, d3 := d3, sg := sg, db := db }))))
noncomputable def r63_t (a : Int) (b : Int) (c : Int) (L : List Int) (n : Nat) (sc : Int) (out : Int) (lm : List (Int × Int)) (i : Int) (k : Int) (l : Int) (s : Int) (d0 : Int) (d1 : Int) (d2 : Int) (d3 : Int) (sg : Int) (db : Int) (Q : X → Option (List AV) → T Blk → Nat → Prop) : Option Prop :=
 (bif (if inoB a b c i = true then (0 : Int) else 2) != 0 then (
  some ((All [] ∧ ((true = true) ∧ Q (X.ret) (some [AV.c (Cell.bool false)]) (ofL [(0, Blk.row 89 false none
  (Body.cells
    [Cell.int IntKind.i64 a, Cell.int IntKind.i64 b, Cell.int IntKind.i64 c, Cell.slu 1 64 0 n, Cell.int IntKind.u32 sc,
      Cell.map 2, Cell.int IntKind.i64 out])), (1, Blk.row 49 false (some 64) (Body.ints IntKind.u8 L (r63_x0 n))), (2, Blk.mapI none lm)]) (3))))
  ) else (
  (bif !ldOk L n (r63_x1 a b c i) 4 then (
   some ((All [L.length = (r63_x0 n), (r63_x0 n) = (r63_x0 n)] ∧ ((true = true) ∧ Q (X.ret) (some [AV.c (Cell.bool false)]) (ofL [(0, Blk.row 89 false none
  (Body.cells
    [Cell.int IntKind.i64 a, Cell.int IntKind.i64 b, Cell.int IntKind.i64 c, Cell.slu 1 64 0 n, Cell.int IntKind.u32 sc,
      Cell.map 2, Cell.int IntKind.i64 out])), (1, Blk.row 49 false (some 64) (Body.ints IntKind.u8 L (r63_x0 n))), (2, Blk.mapI none lm)]) (3))))
   ) else (
   some ((All [L.length = (r63_x0 n), (r63_x0 n) = (r63_x0 n), (r63_x4 a b c L n i k l s d0 d1 d2 d3 sg db).length = 54, 0 ≤ (r63_x3 a b c i) ∧ (r63_x3 a b c i) ≤ 2, L.length = (r63_x0 n), (r63_x0 n) = (r63_x0 n)] ∧ ((true = true) ∧ Q (X.ret) (some
  [AV.c (Cell.bool (wrEnd a b c n sc out L lm (r63_x1 a b c i) 4 (r63_x4 a b c L n i k l s d0 d1 d2 d3 sg db)).fst)]) (ofL [(0, Blk.row 89 false none
  (Body.cells
    [Cell.int IntKind.i64 a, Cell.int IntKind.i64 b, Cell.int IntKind.i64 c, Cell.slu 1 64 0 n, Cell.int IntKind.u32 sc,
      Cell.map 2,
      Cell.int IntKind.i64
        (wrEnd a b c n sc out L lm (r63_x1 a b c i) 4 (r63_x4 a b c L n i k l s d0 d1 d2 d3 sg db)).snd.snd.snd])), (1, Blk.row 49 false (some 64)
  (Body.ints IntKind.u8
    (wrEnd a b c n sc out L lm (r63_x1 a b c i) 4 (r63_x4 a b c L n i k l s d0 d1 d2 d3 sg db)).snd.fst
    (r63_x0 n))), (2, Blk.mapI none
  (wrEnd a b c n sc out L lm (r63_x1 a b c i) 4 (r63_x4 a b c L n i k l s d0 d1 d2 d3 sg db)).snd.snd.fst)]) (3))))
   ))
  ))
theorem r63_tree (a : Int) (b : Int) (c : Int) (L : List Int) (n : Nat) (sc : Int) (out : Int) (lm : List (Int × Int)) (i : Int) (k : Int) (l : Int) (s : Int) (d0 : Int) (d1 : Int) (d2 : Int) (d3 : Int) (sg : Int) (db : Int) (Q : X → Option (List AV) → T Blk → Nat → Prop) : r63 a b c L n sc out lm i k l s d0 d1 d2 d3 sg db Q = r63_t a b c L n sc out lm i k l s d0 d1 d2 d3 sg db Q := by kernel_rfl

/-- the load with an inode in it -/
noncomputable def ldW (a b c : Int) (L : List Int) (n : Nat) (i : Int) (y : Fi.Ino9) : List Int := over (ldP L n (inoP b c i).1 4) (18 * (inoP b c i).2.1.toNat) (enc18 y)
noncomputable def wr63 (a b c : Int) (n : Nat) (sc : Int) (st : St) (i : Int) (y : Fi.Ino9) : Bool × St :=
  if inoOk a b c st.1 n i then ((wrEnd a b c n sc st.2.2 st.1 st.2.1 (inoP b c i).1 4 (ldW a b c st.1 n i y)).1, wr1 a b c n sc st (inoP b c i).1 4 (ldW a b c st.1 n i y)) else (false, st)
theorem ldW_len {a b c : Int} {L : List Int} {n : Nat} {i : Int} {y : Fi.Ino9} (hl : L.length = 64 * n) : (ldW a b c L n i y).length = 54 := by
  have h := inoSlot b c i
  exact over_len18 (ldP_len hl) (enc_len y) (by omega)
theorem body63_eq : Try.f63.body = some c63 := by kernel_rfl
theorem small63 {a b c : Int} {n : Nat} {sc : Int} {st : St} {i : Int} {y : Fi.Ino9} (hl : st.1.length = 64 * n) : SmallC Try.prog 63 (args63 i y.k y.l y.s y.d0 y.d1 y.d2 y.d3 y.sg y.db) 3 (imgT a b c n sc st) (imgT a b c n sc (wr63 a b c n sc st i y).2) (.one (.c (.bool (wr63 a b c n sc st i y).1))) := by
  refine smallC_tree (fn := Try.f63) (keep := [6]) fitJ4 Try.func63 body63_eq rfl (by rw [imgT, imgW_eq]; exact top_three) (sl63_ok ..) (.of_eq (r63_tree a b c st.1 n sc st.2.2 st.2.1 i y.k y.l y.s y.d0 y.d1 y.d2 y.d3 y.sg y.db _) ?_)
  unfold r63_t
  have same : EndS (.one (.c (.bool false))) (imgT a b c n sc st) 3 .ret (some [AV.c (Cell.bool false)]) (imgT a b c n sc st) 3 := ⟨.inr rfl, ⟨_, rfl, rfl⟩, rfl, rfl⟩
  unfold wr63 inoOk
  cases hB : inoB a b c i with
  | false => exact .yes (by simp) ⟨trivial, rfl, same⟩
  | true =>
    refine .no (by simp) ?_
    have x1 : r63_x1 a b c i = (inoP b c i).1 := by show sel (inoB a b c i) _ = _; rw [hB]; rfl
    rw [x1]
    cases hL : ldOk st.1 n (inoP b c i).1 4 with
    | false => exact .yes rfl ⟨⟨hl, rfl, trivial⟩, rfl, same⟩
    | true =>
      have hp : (ldP st.1 n (inoP b c i).1 4).length = 54 := ldP_len hl
      have x2 : r63_x2 a b c st.1 n i = ldP st.1 n (inoP b c i).1 4 := by
        show over z54 0 (t54 (over z54 0 (t54 (over z54 0 (ldP st.1 n (r63_x1 a b c i) 4))))) = _
        rw [x1, over_z54 hp, show t54 (ldP st.1 n (inoP b c i).1 4) = _ from take_all hp, over_z54 hp, show t54 (ldP st.1 n (inoP b c i).1 4) = _ from take_all hp, over_z54 hp]
      have x3 : r63_x3 a b c i = (inoP b c i).2.1 := by show sel (inoB a b c i) _ = _; rw [hB]; rfl
      have hw : (ldW a b c st.1 n i y).length = 54 := ldW_len hl
      have x4 : r63_x4 a b c st.1 n i y.k y.l y.s y.d0 y.d1 y.d2 y.d3 y.sg y.db = ldW a b c st.1 n i y := by
        show t54 (over (r63_x2 a b c st.1 n i) 0 (over (t54 (r63_x2 a b c st.1 n i)) (18 * (r63_x3 a b c i).toNat) (enc18 y))) = _
        rw [x2, x3, show t54 (ldP st.1 n (inoP b c i).1 4) = _ from take_all hp]
        show t54 (over (ldP st.1 n (inoP b c i).1 4) 0 (ldW a b c st.1 n i y)) = _
        rw [over_zero, hw, show (ldP st.1 n (inoP b c i).1 4).drop 54 = [] from by rw [List.drop_of_length_le (by omega)], List.append_nil]
        exact take_all hw
      refine .no rfl ?_
      rw [x3, x4]
      exact ⟨⟨hl, rfl, hw, inoSlot b c i, hl, rfl, trivial⟩, rfl, .inr rfl, ⟨_, rfl, rfl⟩, rfl, rfl⟩
noncomputable def g63 : List RV → Int → Int → Int → Nat → Int → St → Option (RV × St × List Prop) := fun xs a b c n sc st => match xs with
  | [.one (.c (.int .i64 i)), .one (.agg [.int .u8 k, .int .u8 l, .int .u32 s, .int .u16 d0, .int .u16 d1, .int .u16 d2, .int .u16 d3, .int .u16 sg, .int .u16 db])] =>
    some (.one (.c (.bool (wr63 a b c n sc st i ⟨k, l, s, d0, d1, d2, d3, sg, db⟩).1)), (wr63 a b c n sc st i ⟨k, l, s, d0, d1, d2, d3, sg, db⟩).2, [])
  | _ => none
theorem sum63 : SumAOK Try.prog 63 (sumImg g63) := by
  refine sumImg_ok ⟨_, Try.func63, rfl⟩ (fun xs a b c n sc st v st' ps h hps hl => ?_) fun xs a b c n sc st v st' ps h => ?_
  · unfold g63 at h
    split at h <;> try (cases h; done)
    rename_i i k l s d0 d1 d2 d3 sg db
    simp only [Option.some.injEq, Prod.mk.injEq] at h
    obtain ⟨rfl, rfl, rfl⟩ := h
    exact small63 (y := ⟨k, l, s, d0, d1, d2, d3, sg, db⟩) hl
  · unfold g63 at h
    split at h <;> try (cases h; done)
    simp only [Option.some.injEq, Prod.mk.injEq] at h
    obtain ⟨rfl, rfl, rfl⟩ := h
    exact ⟨rfl, rfl⟩
/-! ### the second phase: f33 -/
noncomputable def sgJ5 : FuncId → Option SumA := fun f => match f with | 62 => some (pureSum fIno) | 61 => some (pureSum fInN) | 36 => some (sumRd g36) | 20 => some sumIn | 9 => some (pureSum Fi.fSh) | 63 => some (sumImg g63) | _ => none
theorem fitJ5 : Fit Try.prog (fun f => (sgJ5 f).map toSum) := ⟨fit_ng, fit_mixed, SumAOK.sum fun f sm h => by
  unfold sgJ5 at h
  split at h
  · cases h; exact fIno62.sum ⟨_, Try.func62, rfl⟩
  · cases h; exact fInN61.sum ⟨_, Try.func61, rfl⟩
  · cases h; exact sum36
  · cases h; exact sumIn_ok
  · cases h; exact Fi.fSh9_ok.sum ⟨_, Try.func9, rfl⟩
  · cases h; exact sum63
  · cases h⟩
noncomputable def c33 : Code := gB 33
noncomputable def args33 : List RV := [.one (.c (.ptr 0 0))]
noncomputable def sl33 : T RV := match setArgs 45 args33 0 .nil some with | some t => t | none => .nil
theorem sl33_ok : setArgs 45 args33 0 .nil some = some sl33 := by kernel_rfl
noncomputable def lp33 : Code := match gR (gR c33) with | .block _ (.loop c) => c | _ => .skip
section
variable (a b c : Int) (L : List Int) (n : Nat) (sc out i N : Int) (lm : List (Int × Int))
noncomputable def hp33 : T Blk := ofL [(0, .row 89 false none (.cells (imgC a b c n sc out))), (1, .row 49 false (some 64) (.ints .u8 L (64 * n))), (2, .mapI none lm), (3, .row 23 false none (.cells [.int .i64 a, .int .i64 b, .int .i64 c])), (4, .row 23 false none (.cells [.int .i64 a, .int .i64 b, .int .i64 c]))]
noncomputable def s33 : S := low 45 5 (fgt [0, 2, 12, 13] 45 ⟨ofL [(0, .one (.c (.ptr 0 0))), (2, .one (.c (.ptr 4 0))), (12, .one (.c (.int .i64 N))), (13, .one (.c (.int .i64 i)))], hp33 a b c L n sc out lm, 5, []⟩)
noncomputable def ini33 (M : S → Prop) (R : X → Option (List AV) → Prop) : Option Prop := execN Try.prog sgJ5 300 45 2 c33 ⟨sl33, imgW a b c L n sc out lm, 3, []⟩ αT (fun x s α => some (All α.ob ∧ match x with | .normal => M (fgt [0, 2, 12, 13] 45 s) | x => R x (resOf Try.prog 45 s Try.f33.results.toList)))
noncomputable def rnd33 (Q : X → S → Prop) : Option Prop := execA Try.prog sgJ5 300 45 lp33 (s33 a b c L n sc out i N lm) αT (fun x s α => some (All α.ob ∧ (Nat.ble 5 s.nx = true ∧ Q x (low 45 5 (fgt [0, 2, 12, 13] 45 s)))))
end
end Go.Sx

namespace Go.Sx
open Go.Proofs Go.RowKit
set_option maxRecDepth 100000
section
variable (a b c : Int) (n : Nat) (sc : Int)
/-- one inode of the second phase -/
noncomputable def fld1 (st : St) (i : Int) : St := if inoOk a b c st.1 n i = true ∧ inS a sc (inoP b c i).2.2.1 = true then (wr63 a b c n sc st i (Fi.sh a b c i (inoV b c st.1 n i))).2 else st
noncomputable def flds : Nat → St → Int → St
  | 0, st, _ => st
  | m + 1, st, i => flds m (fld1 a b c n sc st i) (i + 1)
noncomputable def fldR (st : St) : St := flds a b c n sc (inoN a b c).toNat st 1
end
noncomputable def rnd33_t (a b c : Int) (L : List Int) (n : Nat) (sc out i N : Int) (lm : List (Int × Int)) (Q : X → S → Prop) : Option Prop :=
  bif decide (i < N) then
    bif inoOk a b c L n (IntKind.i64.wrap (i + 1)) then
      bif inS a sc (sel (inoB a b c (IntKind.i64.wrap (i + 1))) (inoP b c (IntKind.i64.wrap (i + 1))).2.2.1) then
        some (All [L.length = 64 * n, 64 * n = 64 * n, (inoG a b c L n (IntKind.i64.wrap (i + 1))).Ok, L.length = 64 * n, 64 * n = 64 * n] ∧ (true = true ∧ Q .normal (s33 a b c (wr63 a b c n sc (L, lm, out) (IntKind.i64.wrap (i + 1)) (Fi.sh a b c (IntKind.i64.wrap (i + 1)) (inoG a b c L n (IntKind.i64.wrap (i + 1))))).2.1 n sc
          (wr63 a b c n sc (L, lm, out) (IntKind.i64.wrap (i + 1)) (Fi.sh a b c (IntKind.i64.wrap (i + 1)) (inoG a b c L n (IntKind.i64.wrap (i + 1))))).2.2.2 (IntKind.i64.wrap (i + 1)) N (wr63 a b c n sc (L, lm, out) (IntKind.i64.wrap (i + 1)) (Fi.sh a b c (IntKind.i64.wrap (i + 1)) (inoG a b c L n (IntKind.i64.wrap (i + 1))))).2.2.1)))
      else some (All [L.length = 64 * n, 64 * n = 64 * n] ∧ (true = true ∧ Q .normal (s33 a b c L n sc out (IntKind.i64.wrap (i + 1)) N lm)))
    else some (All [L.length = 64 * n, 64 * n = 64 * n] ∧ (true = true ∧ Q .normal (s33 a b c L n sc out (IntKind.i64.wrap (i + 1)) N lm)))
  else some (All [] ∧ (true = true ∧ Q (.exit 0) (s33 a b c L n sc out i N lm)))
theorem rnd33_tree (a b c : Int) (L : List Int) (n : Nat) (sc out i N : Int) (lm : List (Int × Int)) (Q : X → S → Prop) : rnd33 a b c L n sc out i N lm Q = rnd33_t a b c L n sc out i N lm Q := by kernel_rfl
noncomputable def s33a (a b c : Int) (L : List Int) (n : Nat) (sc out i N : Int) (lm : List (Int × Int)) : S := fgt [0, 2, 12, 13] 45 ⟨ofL [(0, .one (.c (.ptr 0 0))), (2, .one (.c (.ptr 4 0))), (12, .one (.c (.int .i64 N))), (13, .one (.c (.int .i64 i)))], hp33 a b c L n sc out lm, 5, []⟩
theorem s33a_low (a b c : Int) (L : List Int) (n : Nat) (sc out i N : Int) (lm : List (Int × Int)) : low 45 5 (s33a a b c L n sc out i N lm) = s33 a b c L n sc out i N lm := rfl
theorem ini33_tree (a b c : Int) (L : List Int) (n : Nat) (sc out : Int) (lm : List (Int × Int)) (M : S → Prop) (R : X → Option (List AV) → Prop) : ini33 a b c L n sc out lm M R = some (All [] ∧ M (s33a a b c L n sc out 0 (inoN a b c) lm)) := by kernel_rfl
theorem s33_nx (a b c : Int) (L : List Int) (n : Nat) (sc out i N : Int) (lm : List (Int × Int)) : (s33 a b c L n sc out i N lm).nx = 5 := by kernel_rfl
noncomputable def e33 (a b c : Int) (L : List Int) (n : Nat) (sc out i N : Int) (lm : List (Int × Int)) : S := low 45 3 (fgt [] 45 (s33 a b c L n sc out i N lm))
theorem e33_hp (a b c : Int) (L : List Int) (n : Nat) (sc out i N : Int) (lm : List (Int × Int)) : (e33 a b c L n sc out i N lm).hp = imgW a b c L n sc out lm := by kernel_rfl
/-- bytes, all of them -/
def ByA (L : List Int) (n : Nat) : Prop := ∀ s : Int, 0 ≤ s → s < n → Bytes (bk L s)
/-! what a write leaves, sector by sector -/
section
variable {a b c sc : Int} {m : Nat} {st : St}
theorem wr1_bk (hl : st.1.length = 64 * m) {g k : Int} {p : List Int} (h0 : 0 ≤ g) (hm : g < m) (hk : mayK k = true) (hp : p.length = 54) (hin : g < 2 ∨ inS a sc (pl a b c g).2.1 = true) :
    (∀ s : Int, 0 ≤ s → s < m → bk (wr1 a b c m sc st g k p).1 s = if s = g then wrB k p (bk st.1 g) else bk st.1 s) ∧ (wr1 a b c m sc st g k p).2.2 = st.2.2 ∧ (isB k (bk st.1 g) = true ∧ t54 (bk st.1 g) = p → wr1 a b c m sc st g k p = st) := by
  have hs : hasS m g = true := hasS_iff.2 ⟨h0, hm⟩
  have hok : ldOk st.1 m g k = isB k (bk st.1 g) := by
    unfold ldOk; rw [hs, Bool.true_and]
    show (getE k (bk st.1 g) == 0) = _
    rw [getE_is hk]
  have hld : isB k (bk st.1 g) = true → ldP st.1 m g k = t54 (bk st.1 g) := fun hi => by
    unfold ldP; rw [hs, if_pos rfl]
    show getP k (bk st.1 g) = _
    unfold getP; rw [if_pos hi]
  by_cases hc : isB k (bk st.1 g) = true ∧ t54 (bk st.1 g) = p
  · have e : wr1 a b c m sc st g k p = st := by
      show (wrEnd a b c m sc st.2.2 st.1 st.2.1 g k p).2 = st
      unfold wrEnd
      rw [hs, if_pos rfl, hok, hc.1, hld hc.1, hc.2]
      simp
    rw [e]
    refine ⟨fun s _ _ => ?_, rfl, fun _ => rfl⟩
    split
    · rename_i hs; subst hs; unfold wrB; rw [if_pos (by simp [hc.1, hc.2])]
    · rfl
  · have hcb : (ldOk st.1 m g k && (ldP st.1 m g k == p)) = false := by
      rw [hok]
      cases hi : isB k (bk st.1 g) with
      | false => rfl
      | true =>
        rw [hld hi, Bool.true_and]
        simp
        exact fun e => hc ⟨hi, e⟩
    have hio : (decide (g ≥ 2) && !inS a sc (pl a b c g).2.1) = false := by
      rcases hin with hin | hin
      · have : decide (g ≥ 2) = false := by simp; omega
        rw [this]; rfl
      · rw [hin]; simp
    have e : wr1 a b c m sc st g k p = (over st.1 (g.toNat * 64) (nextB k (bk st.1 g) p), putI st.2.1 g 1, st.2.2) := by
      show (wrEnd a b c m sc st.2.2 st.1 st.2.1 g k p).2 = _
      unfold wrEnd
      rw [hs, if_pos rfl, hcb, putE_may.2 hk, hio]
      rfl
    rw [e]
    refine ⟨fun s s0 s1 => ?_, rfl, fun h => absurd h hc⟩
    show blkAt (over st.1 (g.toNat * 64) (nextB k (bk st.1 g) p)) (s.toNat * 64) = _
    by_cases hy : s = g
    · subst hy
      rw [over_at_same (nextB_len hp) (by omega), if_pos rfl]
      unfold wrB; rw [if_neg (by simpa using hc)]
    · rw [over_at_other (nextB_len hp) (by omega) (by omega), if_neg hy]
theorem ino_pl {i : Int} (hB : inoB a b c i = true) : (pl a b c (inoP b c i).1).1 = 4 ∧ (pl a b c (inoP b c i).1).2.1 = (inoP b c i).2.2.1 ∧ 2 ≤ (inoP b c i).1 ∧ (inoP b c i).1 < 2 + a * (2 + b + c) ∧ 0 ≤ (inoP b c i).2.2.1 ∧ (inoP b c i).2.2.1 < a := by
  unfold inoB at hB
  simp only [Bool.and_eq_true, decide_eq_true_eq] at hB
  obtain ⟨hg, h0, h1⟩ := hB
  obtain ⟨g1, g2, g3, g4, g5, g6⟩ := geoB_iff.1 hg
  obtain ⟨f1, f2, f3, f4, f5, f6, f7, f8⟩ := inoF hg h0 h1
  have e : (inoP b c i).1 = 2 + (i - 1) / (3 * b) * (2 + b + c) + (2 + (i - 1) % (3 * b) / 3) := by unfold inoP; simp only; omega
  have hp := pl_at hg f1 f2 (j := 2 + (i - 1) % (3 * b) / 3) (by omega) (by omega)
  rw [if_neg (by omega), if_neg (by omega), if_pos (by omega)] at hp
  rw [e, hp]
  refine ⟨rfl, rfl, by omega, by omega, f1, f2⟩
end
theorem e33_nx (a b c : Int) (L : List Int) (n : Nat) (sc out i N : Int) (lm : List (Int × Int)) : (e33 a b c L n sc out i N lm).nx = 3 := by kernel_rfl
theorem f33_nx (a b c : Int) (L : List Int) (n : Nat) (sc out i N : Int) (lm : List (Int × Int)) : (fgt [] 45 (s33 a b c L n sc out i N lm)).nx = 5 := by kernel_rfl
theorem e33_res (a b c : Int) (L : List Int) (n : Nat) (sc out i N : Int) (lm : List (Int × Int)) : resOf Try.prog 45 (e33 a b c L n sc out i N lm) Try.f33.results.toList = some [] := by kernel_rfl
section
variable {a b c sc : Int} {m : Nat} {st : St}
/-- what an inode is, out of its sector -/
theorem inoV_bk {L : List Int} {i : Int} (hok : inoOk a b c L m i = true) : inoB a b c i = true ∧ hasS m (inoP b c i).1 = true ∧ isB 4 (bk L (inoP b c i).1) = true ∧ ldP L m (inoP b c i).1 4 = t54 (bk L (inoP b c i).1) := by
  unfold inoOk at hok
  simp only [Bool.and_eq_true] at hok
  obtain ⟨h1, h2⟩ := hok
  have h2' := h2
  unfold ldOk at h2
  simp only [Bool.and_eq_true] at h2
  obtain ⟨h3, h4⟩ := h2
  have h5 : isB 4 (bk L (inoP b c i).1) = true := by rw [← getE_is rfl]; exact h4
  refine ⟨h1, h3, h5, ?_⟩
  unfold ldP
  rw [if_pos h3]
  show getP 4 (bk L (inoP b c i).1) = _
  unfold getP; rw [if_pos h5]
theorem inoOk_iff {L : List Int} {i : Int} : inoOk a b c L m i = (inoB a b c i && (hasS m (inoP b c i).1 && isB 4 (bk L (inoP b c i).1))) := by
  unfold inoOk ldOk
  rw [show getE 4 (blkAt L ((inoP b c i).1.toNat * 64)) = getE 4 (bk L (inoP b c i).1) from rfl, getE_is rfl]
theorem slot_bytes {L : List Int} {i : Int} (hl : L.length = 64 * m) (hok : inoOk a b c L m i = true) (hy : Bytes (bk L (inoP b c i).1)) : Bytes (slot18 (ldP L m (inoP b c i).1 4) (18 * (inoP b c i).2.1.toNat)) ∧ (slot18 (ldP L m (inoP b c i).1 4) (18 * (inoP b c i).2.1.toNat)).length = 18 := by
  have hp : (ldP L m (inoP b c i).1 4).length = 54 := ldP_len hl
  have hs := inoSlot b c i
  refine ⟨fun x hx => ?_, by simp only [slot18, List.length_take, List.length_drop]; omega⟩
  rw [(inoV_bk hok).2.2.2] at hx
  exact hy x (List.mem_of_mem_drop (List.mem_of_mem_take (List.mem_of_mem_drop (List.mem_of_mem_take hx))))
theorem inoV_in {L : List Int} {i : Int} (hl : L.length = 64 * m) (hok : inoOk a b c L m i = true) (hy : Bytes (bk L (inoP b c i).1)) : In9 (inoV b c L m i) := dec_in (slot_bytes hl hok hy).1
theorem sh_in {i : Int} {y : Fi.Ino9} (h : In9 y) : In9 (Fi.sh a b c i y) := by
  have z : In9 Fi.Ino9.zero := ⟨⟨by decide, by decide⟩, ⟨by decide, by decide⟩, ⟨by decide, by decide⟩, Fi.u0, Fi.u0, Fi.u0, Fi.u0, Fi.u0, Fi.u0⟩
  have h1 : In9 (if y.chk then y else Fi.Ino9.zero) := by split <;> assumption
  exact Fi.finI_ind (Q := In9) (fun _ => ⟨⟨by decide, by decide⟩, ⟨by decide, by decide⟩, ⟨by decide, by decide⟩, Fi.u0, Fi.u0, Fi.u0, Fi.u0, Fi.u0, Fi.u0⟩)
    (fun _ => ⟨h1.k, h1.l, h1.s, Fi.kp_u16 h1.d0, Fi.kp_u16 h1.d1, Fi.kp_u16 h1.d2, Fi.kp_u16 h1.d3, Fi.kp_u16 h1.sg, Fi.kp_u16 h1.db⟩)
theorem bytes_over {p e : List Int} {o : Nat} (hp : Bytes p) (he : Bytes e) : Bytes (over p o e) :=
  bytes_app (bytes_app (fun x hx => hp x (List.mem_of_mem_take hx)) he) (fun x hx => hp x (List.mem_of_mem_drop hx))
/-- what one step of the second phase leaves -/
theorem fld1_bk (hl : st.1.length = 64 * m) (hm : (m : Int) = 2 + a * (2 + b + c)) (hy : ByA st.1 m) (i : Int) : (fld1 a b c m sc st i).1.length = 64 * m ∧ ByA (fld1 a b c m sc st i).1 m ∧ (fld1 a b c m sc st i).2.2 = st.2.2 ∧
    (∀ s : Int, 0 ≤ s → s < m → bk (fld1 a b c m sc st i).1 s = if inoOk a b c st.1 m i = true ∧ inS a sc (inoP b c i).2.2.1 = true ∧ s = (inoP b c i).1 then wrB 4 (ldW a b c st.1 m i (Fi.sh a b c i (inoV b c st.1 m i))) (bk st.1 s) else bk st.1 s) ∧
    (inoOk a b c st.1 m i = true → inS a sc (inoP b c i).2.2.1 = true → Fi.sh a b c i (inoV b c st.1 m i) = inoV b c st.1 m i → fld1 a b c m sc st i = st) := by
  unfold fld1
  by_cases hc : inoOk a b c st.1 m i = true ∧ inS a sc (inoP b c i).2.2.1 = true
  · rw [if_pos hc]
    obtain ⟨hok, hin⟩ := hc
    obtain ⟨hB, hs, hi, hld⟩ := inoV_bk hok
    obtain ⟨p1, p2, p3, p4, _, _⟩ := ino_pl hB
    obtain ⟨s0, s1⟩ := hasS_iff.1 hs
    have hY := hy _ s0 s1
    obtain ⟨sb, sl⟩ := slot_bytes hl hok hY
    have hV := inoV_in hl hok hY
    have hw : (ldW a b c st.1 m i (Fi.sh a b c i (inoV b c st.1 m i))).length = 54 := ldW_len hl
    have e : (wr63 a b c m sc st i (Fi.sh a b c i (inoV b c st.1 m i))).2 = wr1 a b c m sc st (inoP b c i).1 4 (ldW a b c st.1 m i (Fi.sh a b c i (inoV b c st.1 m i))) := by unfold wr63; rw [if_pos hok]
    rw [e]
    obtain ⟨w1, w2, w3⟩ := wr1_bk (sc := sc) hl (g := (inoP b c i).1) (k := 4) s0 s1 rfl hw (.inr (by rw [p2]; exact hin))
    have hbw : Bytes (ldW a b c st.1 m i (Fi.sh a b c i (inoV b c st.1 m i))) := by
      unfold ldW
      rw [hld]
      refine bytes_over (fun x hx => hY x (List.mem_of_mem_drop (List.mem_of_mem_take hx))) (bytes_enc (sh_in hV).k (sh_in hV).l)
    refine ⟨wr1_len hl hw, fun s h0 h1 => ?_, w2, fun s h0 h1 => ?_, fun _ _ hsh => w3 ⟨hi, ?_⟩⟩
    · rw [w1 s h0 h1]
      split
      · exact bytes_wr rfl hbw hY
      · exact hy s h0 h1
    · rw [w1 s h0 h1]
      by_cases hs : s = (inoP b c i).1
      · rw [if_pos hs, if_pos ⟨hok, hin, hs⟩, hs]
      · rw [if_neg hs, if_neg (fun h => hs h.2.2)]
    · rw [hsh]
      unfold ldW inoV
      rw [enc_dec sl sb, hld]
      have hp : (t54 (bk st.1 (inoP b c i).1)).length = 54 := by rw [← hld]; exact ldP_len hl
      have hs := inoSlot b c i
      exact (over_same (by omega)).symm
  · rw [if_neg hc]
    exact ⟨hl, hy, rfl, fun s _ _ => by rw [if_neg (fun h => hc ⟨h.1, h.2.1⟩)], fun h1 h2 => absurd ⟨h1, h2⟩ hc⟩
theorem flds_ok (hm : (m : Int) = 2 + a * (2 + b + c)) : ∀ (k : Nat) (st : St) (i : Int), st.1.length = 64 * m → ByA st.1 m → (flds a b c m sc k st i).1.length = 64 * m ∧ ByA (flds a b c m sc k st i).1 m
  | 0, st, i, hl, hy => ⟨hl, hy⟩
  | k + 1, st, i, hl, hy => by
    obtain ⟨h1, h2, _⟩ := fld1_bk (sc := sc) hl hm hy i
    exact flds_ok hm k _ (i + 1) h1 h2
end
end Go.Sx

namespace Go.Sx
open Go.Proofs Go.RowKit
set_option maxRecDepth 100000
section
variable {a b c sc : Int} {m : Nat}
theorem s33a_eq (a b c : Int) (L : List Int) (n : Nat) (sc out i N : Int) (lm : List (Int × Int)) : s33a a b c L n sc out i N lm = s33 a b c L n sc out i N lm := by kernel_rfl
noncomputable abbrev at33 (a b c : Int) (m : Nat) (sc : Int) (N i : Int) (st : St) : S := s33 a b c st.1 m sc st.2.2 i N st.2.1
theorem loop33 (hm : (m : Int) = 2 + a * (2 + b + c)) (hN : inoN a b c ≤ 192) : ∀ (k : Nat) (i : Int) (st : St), st.1.length = 64 * m → ByA st.1 m → 0 ≤ i → i + k = inoN a b c →
    Tr Try.prog 45 (.loop lp33) (at33 a b c m sc (inoN a b c) i st) (fun x s' => x = .exit 0 ∧ s' = at33 a b c m sc (inoN a b c) (inoN a b c) (flds a b c m sc k st (i + 1)))
  | 0, i, st, hl, hy, h0, hk => by
    have : i = inoN a b c := by simpa using hk
    refine Tr.loop (Tr.treeL fitJ5 (m := 5) (by rw [s33_nx]; exact Nat.le_refl _) (.of_eq (rnd33_tree a b c st.1 m sc st.2.2 i (inoN a b c) st.2.1 _) (.no (by simp; omega) ⟨trivial, rfl, ?_⟩)))
    refine ⟨rfl, ?_⟩
    rw [flds, ← this]
  | k + 1, i, st, hl, hy, h0, hk => by
    push_cast at hk
    have hi1 : IntKind.i64.wrap (i + 1) = i + 1 := IntWalk.i64_in _ (by omega)
    obtain ⟨l1, y1, _⟩ := fld1_bk (sc := sc) hl hm hy (i + 1)
    have ih := loop33 hm hN k (i + 1) (fld1 a b c m sc st (i + 1)) l1 y1 (by omega) (by omega)
    have tl : 64 * m = 64 * m := rfl
    refine Tr.loop (Tr.treeL fitJ5 (m := 5) (by rw [s33_nx]; exact Nat.le_refl _) (.of_eq (rnd33_tree a b c st.1 m sc st.2.2 i (inoN a b c) st.2.1 _) (.yes (by simp; omega) ?_)))
    rw [hi1]
    cases hok : inoOk a b c st.1 m (i + 1) with
    | false =>
      refine .no rfl ⟨⟨hl, tl, trivial⟩, rfl, ?_⟩
      have e : fld1 a b c m sc st (i + 1) = st := by unfold fld1; rw [if_neg (by rw [hok]; simp)]
      rw [e] at ih
      show Tr Try.prog 45 (.loop lp33) _ _
      rw [flds, e]
      exact ih
    | true =>
      obtain ⟨hB, hs, hi, hld⟩ := inoV_bk hok
      obtain ⟨s0, s1⟩ := hasS_iff.1 hs
      refine .yes rfl ?_
      rw [hB]
      show Okp (bif inS a sc (inoP b c (i + 1)).2.2.1 then _ else _)
      cases hin : inS a sc (inoP b c (i + 1)).2.2.1 with
      | false =>
        refine .no rfl ⟨⟨hl, tl, trivial⟩, rfl, ?_⟩
        have e : fld1 a b c m sc st (i + 1) = st := by unfold fld1; rw [if_neg (by rw [hin]; simp)]
        rw [e] at ih
        show Tr Try.prog 45 (.loop lp33) _ _
        rw [flds, e]
        exact ih
      | true =>
        have hG : inoG a b c st.1 m (i + 1) = inoV b c st.1 m (i + 1) := by unfold inoG; rw [if_pos hok]
        refine .yes rfl ?_
        rw [hG]
        refine ⟨⟨hl, tl, (inoV_in hl hok (hy _ s0 s1)).ok, hl, tl, trivial⟩, rfl, ?_⟩
        have e : fld1 a b c m sc st (i + 1) = (wr63 a b c m sc st (i + 1) (Fi.sh a b c (i + 1) (inoV b c st.1 m (i + 1)))).2 := by unfold fld1; rw [if_pos ⟨hok, hin⟩]
        rw [e] at ih
        show Tr Try.prog 45 (.loop lp33) _ _
        rw [flds, e]
        exact ih
theorem body33_eq : Try.f33.body = some c33 := by kernel_rfl
theorem body33 {st : St} (hm : (m : Int) = 2 + a * (2 + b + c)) (hg : geoB a b c = true) (hl : st.1.length = 64 * m) (hy : ByA st.1 m) {Q : X → S → Prop} (hq : Q .normal (at33 a b c m sc (inoN a b c) (inoN a b c) (fldR a b c m sc st))) :
    Tr Try.prog 45 c33 ⟨sl33, imgW a b c st.1 m sc st.2.2 st.2.1, 3, []⟩ Q := by
  have hab := ab_small hg
  have hN : inoN a b c = 3 * a * b := by unfold inoN; rw [if_pos hg]
  have lp := loop33 (sc := sc) hm (by rw [hN]; omega) (inoN a b c).toNat 0 st hl hy (by omega) (by omega)
  have h1 := ini33_tree a b c st.1 m sc st.2.2 st.2.1 (fun s => Tr Try.prog 45 (tailN 2 c33) s Q) (fun _ _ => False)
  refine Tr.prefixQ (m := 2) (keep := [0, 2, 12, 13]) (res := Try.f33.results.toList) fitJ5 (Okp.of_eq h1 ⟨trivial, ?_⟩)
  rw [s33a_eq]
  refine Tr.block (id := 0) (c := .loop lp33) (lp.mono fun x s' hx => ?_)
  obtain ⟨rfl, rfl⟩ := hx
  simp only [if_true]
  exact hq
theorem small33 {st : St} (hm : (m : Int) = 2 + a * (2 + b + c)) (hg : geoB a b c = true) (hl : st.1.length = 64 * m) (hy : ByA st.1 m) : SmallC Try.prog 33 args33 3 (imgT a b c m sc st) (imgT a b c m sc (fldR a b c m sc st)) (.tup []) := by
  refine Tr.smallC (fn := Try.f33) (c := c33) Try.func33 body33_eq (by rw [imgT, imgW_eq]; exact top_three) sl33_ok ?_
  refine Tr.low (n := 45) (m := 3) (Nat.le_refl _) (Tr.fgt (n := 45) [] (body33 hm hg hl hy ?_))
  exact ⟨by rw [f33_nx]; omega, .inl rfl, _, e33_res .., rfl, e33_hp .., e33_nx ..⟩
end
noncomputable def g33 : List RV → Int → Int → Int → Nat → Int → St → Option (RV × St × List Prop) := fun xs a b c n sc st => match xs with
  | [] => some (.tup [], fldR a b c n sc st, [(n : Int) = 2 + a * (2 + b + c), geoB a b c = true, ByA st.1 n])
  | _ => none
theorem sum33 : SumAOK Try.prog 33 (sumImg g33) := by
  refine sumImg_ok ⟨_, Try.func33, rfl⟩ (fun xs a b c n sc st v st' ps h hps hl => ?_) fun xs a b c n sc st v st' ps h => ?_
  · unfold g33 at h
    split at h <;> try (cases h; done)
    simp only [Option.some.injEq, Prod.mk.injEq] at h
    obtain ⟨rfl, rfl, rfl⟩ := h
    obtain ⟨h1, h2, h3, _⟩ := hps
    exact small33 h1 h2 hl h3
  · unfold g33 at h
    split at h <;> try (cases h; done)
    simp only [Option.some.injEq, Prod.mk.injEq] at h
    obtain ⟨rfl, rfl, rfl⟩ := h
    exact ⟨rfl, rfl⟩
end Go.Sx

namespace Go.Sx
open Go.Proofs Go.RowKit
set_option maxRecDepth 100000
section
variable {a b c sc : Int} {m : Nat} {st0 st : St} {X : Int}
theorem ino_inj {i j : Int} (hi : inoB a b c i = true) (hj : inoB a b c j = true) (h1 : (inoP b c i).1 = (inoP b c j).1) (h2 : (inoP b c i).2.1 = (inoP b c j).2.1) : i = j := by
  obtain ⟨_, p2, _⟩ := ino_pl hi
  obtain ⟨_, q2, _⟩ := ino_pl hj
  have hk : (inoP b c i).2.2.1 = (inoP b c j).2.2.1 := by rw [← p2, ← q2, h1]
  unfold inoB at hi hj
  simp only [Bool.and_eq_true, decide_eq_true_eq] at hi hj
  obtain ⟨hg, i0, i1⟩ := hi
  obtain ⟨_, j0, j1⟩ := hj
  obtain ⟨g1, g2, g3, g4, g5, g6⟩ := geoB_iff.1 hg
  unfold inoP at h1 h2 hk
  simp only at h1 h2 hk
  rw [hk] at h1
  have hr : (i - 1) % (3 * b) = (j - 1) % (3 * b) := by omega
  have e1 := Int.emod_add_mul_ediv (i - 1) (3 * b)
  have e2 := Int.emod_add_mul_ediv (j - 1) (3 * b)
  rw [hk, hr] at e1
  omega
structure InvF (a b c sc : Int) (m : Nat) (st0 : St) (X : Int) (st : St) : Prop where
  len : st.1.length = 64 * m
  byt : ByA st.1 m
  out : st.2.2 = st0.2.2
  ok : ∀ i, inoOk a b c st.1 m i = inoOk a b c st0.1 m i
  val : ∀ i, inoOk a b c st0.1 m i = true → inoV b c st.1 m i = if i < X ∧ inS a sc (inoP b c i).2.2.1 = true then Fi.sh a b c i (inoV b c st0.1 m i) else inoV b c st0.1 m i
theorem inoV_slot {L : List Int} {i : Int} (hok : inoOk a b c L m i = true) : inoV b c L m i = dec18 (slot18 (t54 (bk L (inoP b c i).1)) (18 * (inoP b c i).2.1.toNat)) := by
  unfold inoV; rw [(inoV_bk hok).2.2.2]
theorem InvF.step (h : InvF a b c sc m st0 X st) (hm : (m : Int) = 2 + a * (2 + b + c)) : InvF a b c sc m st0 (X + 1) (fld1 a b c m sc st X) := by
  obtain ⟨h1, h2, h3, h4, _⟩ := fld1_bk (sc := sc) h.len hm h.byt X
  have hbk : ∀ i, inoB a b c i = true → hasS m (inoP b c i).1 = true → bk (fld1 a b c m sc st X).1 (inoP b c i).1 = if inoOk a b c st.1 m X = true ∧ inS a sc (inoP b c X).2.2.1 = true ∧ (inoP b c i).1 = (inoP b c X).1 then wrB 4 (ldW a b c st.1 m X (Fi.sh a b c X (inoV b c st.1 m X))) (bk st.1 (inoP b c i).1) else bk st.1 (inoP b c i).1 := fun i hB hs => by
    obtain ⟨s0, s1⟩ := hasS_iff.1 hs
    exact h4 _ s0 s1
  have hw : (ldW a b c st.1 m X (Fi.sh a b c X (inoV b c st.1 m X))).length = 54 := ldW_len h.len
  have hok' : ∀ i, inoOk a b c (fld1 a b c m sc st X).1 m i = inoOk a b c st.1 m i := fun i => by
    rw [inoOk_iff, inoOk_iff]
    cases hB : inoB a b c i with
    | false => rfl
    | true =>
      cases hs : hasS m (inoP b c i).1 with
      | false => rfl
      | true =>
        rw [hbk i hB hs]
        split
        · rename_i hc
          rw [(wrB_is rfl hw).1, hc.2.2, (inoV_bk hc.1).2.2.1]
        · rfl
  refine ⟨h1, h2, h3.trans h.out, fun i => (hok' i).trans (h.ok i), fun i hi => ?_⟩
  have hi' : inoOk a b c st.1 m i = true := (h.ok i).trans hi
  have hi2 : inoOk a b c (fld1 a b c m sc st X).1 m i = true := (hok' i).trans hi'
  obtain ⟨hB, hs, _, hld⟩ := inoV_bk hi'
  rw [inoV_slot hi2, hbk i hB hs]
  by_cases hc : inoOk a b c st.1 m X = true ∧ inS a sc (inoP b c X).2.2.1 = true ∧ (inoP b c i).1 = (inoP b c X).1
  · rw [if_pos hc, (wrB_is rfl hw).2]
    obtain ⟨c1, c2, c3⟩ := hc
    obtain ⟨hBX, hsX, _, hldX⟩ := inoV_bk c1
    obtain ⟨s0, s1⟩ := hasS_iff.1 hsX
    have hVX := inoV_in h.len c1 (h.byt _ s0 s1)
    have hp : (ldP st.1 m (inoP b c X).1 4).length = 54 := ldP_len h.len
    have hsl := inoSlot b c X
    have hsi := inoSlot b c i
    unfold ldW
    by_cases hx : (inoP b c i).2.1 = (inoP b c X).2.1
    · have := ino_inj hB hBX c3 hx
      subst this
      rw [slot_same (enc_len _) (by omega), dec_enc (sh_in hVX), if_pos ⟨by omega, c2⟩]
      have hv := h.val i hi
      rw [if_neg (by omega)] at hv
      rw [hv]
    · rw [slot_other (enc_len _) (by omega) (by omega), hldX, ← c3, ← inoV_slot hi', h.val i hi]
      have hne : i ≠ X := fun e => hx (by rw [e])
      by_cases hlt : i < X
      · by_cases hin : inS a sc (inoP b c i).2.2.1 = true
        · rw [if_pos ⟨hlt, hin⟩, if_pos ⟨by omega, hin⟩]
        · rw [if_neg (fun h => hin h.2), if_neg (fun h => hin h.2)]
      · rw [if_neg (fun h => hlt h.1), if_neg (fun h => hlt (by omega))]
  · rw [if_neg hc, ← inoV_slot hi', h.val i hi]
    by_cases hin : inS a sc (inoP b c i).2.2.1 = true
    · by_cases hlt : i < X
      · rw [if_pos ⟨hlt, hin⟩, if_pos ⟨by omega, hin⟩]
      · rw [if_neg (fun h => hlt h.1), if_neg (fun h => ?_)]
        have : i = X := by omega
        subst this
        exact hc ⟨hi', hin, rfl⟩
    · rw [if_neg (fun h => hin h.2), if_neg (fun h => hin h.2)]
theorem InvF.steps (hm : (m : Int) = 2 + a * (2 + b + c)) : ∀ (k : Nat) (X : Int) (st : St), InvF a b c sc m st0 X st → InvF a b c sc m st0 (X + k) (flds a b c m sc k st X)
  | 0, X, st, h => by rw [flds]; simpa using h
  | k + 1, X, st, h => by
    rw [flds]
    have := InvF.steps hm k (X + 1) _ (h.step hm)
    rw [show X + ((k + 1 : Nat) : Int) = X + 1 + k by push_cast; omega]
    exact this
theorem fldR_inv (hm : (m : Int) = 2 + a * (2 + b + c)) (hl : st0.1.length = 64 * m) (hy : ByA st0.1 m) : InvF a b c sc m st0 (1 + (inoN a b c).toNat) (fldR a b c m sc st0) :=
  InvF.steps hm _ 1 st0 ⟨hl, hy, rfl, fun _ => rfl, fun i _ => by
    split
    · rename_i h
      rename_i hok
      obtain ⟨hB, _⟩ := inoV_bk hok
      unfold inoB at hB
      simp only [Bool.and_eq_true, decide_eq_true_eq] at hB
      omega
    · rfl⟩
/-- run again, nothing is written -/
theorem flds_same (hm : (m : Int) = 2 + a * (2 + b + c)) (hl : st.1.length = 64 * m) (hy : ByA st.1 m) (hq : ∀ i, inoOk a b c st.1 m i = true → inS a sc (inoP b c i).2.2.1 = true → Fi.sh a b c i (inoV b c st.1 m i) = inoV b c st.1 m i) : ∀ (k : Nat) (i : Int), flds a b c m sc k st i = st
  | 0, i => rfl
  | k + 1, i => by
    rw [flds]
    have e : fld1 a b c m sc st i = st := by
      by_cases hc : inoOk a b c st.1 m i = true ∧ inS a sc (inoP b c i).2.2.1 = true
      · exact (fld1_bk hl hm hy i).2.2.2.2 hc.1 hc.2 (hq i hc.1 hc.2)
      · unfold fld1; rw [if_neg hc]
    rw [e]
    exact flds_same hm hl hy hq k (i + 1)
theorem ino_le {L : List Int} {i : Int} (hok : inoOk a b c L m i = true) : 1 ≤ i ∧ i < 1 + ((inoN a b c).toNat : Int) := by
  obtain ⟨hB, _⟩ := inoV_bk hok
  unfold inoB at hB
  simp only [Bool.and_eq_true, decide_eq_true_eq] at hB
  obtain ⟨hg, h0, h1⟩ := hB
  unfold inoN
  rw [if_pos hg]
  omega
theorem fldR_again (hm : (m : Int) = 2 + a * (2 + b + c)) (hl : st0.1.length = 64 * m) (hy : ByA st0.1 m) : fldR a b c m sc (fldR a b c m sc st0) = fldR a b c m sc st0 := by
  have h := fldR_inv (sc := sc) hm hl hy
  refine flds_same hm h.len h.byt (fun i hi hin => ?_) _ _
  have hi0 : inoOk a b c st0.1 m i = true := (h.ok i).symm.trans hi
  have hv := h.val i hi0
  rw [if_pos ⟨(ino_le hi0).2, hin⟩] at hv
  rw [hv, Fi.sh_twice]
/-- what the law asks of each inode -/
theorem fldR_law (hm : (m : Int) = 2 + a * (2 + b + c)) (hl : st0.1.length = 64 * m) (hy : ByA st0.1 m) (i : Int) : inoOk a b c (fldR a b c m sc st0).1 m i = inoOk a b c st0.1 m i ∧
    (inS a sc (inoP b c i).2.2.1 = true → inoOk a b c st0.1 m i = true → inoG a b c (fldR a b c m sc st0).1 m i = Fi.sh a b c i (inoG a b c st0.1 m i)) ∧
    (inS a sc (inoP b c i).2.2.1 = false ∨ inoG a b c st0.1 m i = Fi.sh a b c i (inoG a b c st0.1 m i) → inoG a b c (fldR a b c m sc st0).1 m i = inoG a b c st0.1 m i) := by
  have h := fldR_inv (sc := sc) hm hl hy
  refine ⟨h.ok i, fun hin hok => ?_, fun hor => ?_⟩
  · have hv := h.val i hok
    rw [if_pos ⟨(ino_le hok).2, hin⟩] at hv
    unfold inoG
    rw [if_pos hok, if_pos ((h.ok i).trans hok), hv]
  · unfold inoG at hor ⊢
    rw [h.ok i]
    cases hok : inoOk a b c st0.1 m i with
    | false => rfl
    | true =>
      rw [hok] at hor
      simp only [if_true] at hor ⊢
      rw [h.val i hok]
      split
      · rename_i hc
        rcases hor with ho | ho
        · rw [ho] at hc; exact absurd hc.2 (by simp)
        · exact ho.symm
      · rfl
end
end Go.Sx
