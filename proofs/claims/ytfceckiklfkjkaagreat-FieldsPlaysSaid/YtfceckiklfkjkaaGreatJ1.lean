/-
  Parts of the executor Sx over the model's code (any program), or of this seat's walks: words and proofs that the row's text uses.
-/
import Derived.Test.YtfceckiklfkjkaaGreatH6
import Derived.Test.YtfceckiklfkjkaaGreatI20
import Derived.Test.YtfceckiklfkjkaaGreatH1
namespace Go.Sx
open Go.Proofs Go.RowKit
set_option maxRecDepth 100000
/-! ### where an inode lies -/
noncomputable def sgJ1 : FuncId → Option SumA := fun f => match f with | 108 => some (pureSum fGeo) | 111 => some (pureSum fGeo) | _ => none
theorem fitJ1 : Fit Tryz.prog (fun f => (sgJ1 f).map toSum) := ⟨fit_ng, fit_mixed, SumAOK.sum fun f sm h => by
  unfold sgJ1 at h
  split at h
  · cases h; exact (fGeo_ok 108 geoCheck).sum ⟨_, Tryz.func108, rfl⟩
  · cases h; exact (fGeo_ok 111 refGeoCheck).sum ⟨_, Tryz.func111, rfl⟩
  · cases h⟩
noncomputable abbrev geoA (a b c : Int) : RV := .one (.agg [.int .i64 a, .int .i64 b, .int .i64 c])
noncomputable def r61 (a b c : Int) (Q : RV → Prop) : Option Prop := runA Tryz.prog sgJ1 300 92 [geoA a b c] s0 αT fun v _ α => some (All α.ob ∧ Q v)
noncomputable def r34 (a b c : Int) (Q : RV → Prop) : Option Prop := runA Tryz.prog sgJ1 300 51 [geoA a b c] s0 αT fun v _ α => some (All α.ob ∧ Q v)
noncomputable def r62 (a b c i : Int) (Q : RV → Prop) : Option Prop := runA Tryz.prog sgJ1 300 93 [geoA a b c, .one (.c (.int .i64 i))] s0 αT fun v _ α => some (All α.ob ∧ Q v)
noncomputable def r35 (a b c i : Int) (Q : RV → Prop) : Option Prop := runA Tryz.prog sgJ1 300 52 [geoA a b c, .one (.c (.int .i64 i))] s0 αT fun v _ α => some (All α.ob ∧ Q v)
noncomputable def r61_t (a b c : Int) (Q : RV → Prop) : Option Prop := (bif errI (geoB a b c) != 0 then ( some ((All [] ∧ Q (RV.one (AV.c (Cell.int IntKind.i64 0))))) ) else ( some ((All [] ∧ Q (RV.one (AV.c (Cell.int IntKind.i64 (IntKind.i64.wrap (IntKind.i64.wrap (3 * a) * b))))))) ))
theorem r61_tree (a b c : Int) (Q : RV → Prop) : r61 a b c Q = r61_t a b c Q := by kernel_rfl
noncomputable def r34_t (a b c : Int) (Q : RV → Prop) : Option Prop := (bif errI (geoB a b c) != 0 then ( some ((All [] ∧ Q (RV.one (AV.c (Cell.int IntKind.i64 0))))) ) else ( some ((All [] ∧ Q (RV.one (AV.c (Cell.int IntKind.i64 (IntKind.i64.wrap (IntKind.i64.wrap (3 * a) * b))))))) ))
theorem r34_tree (a b c : Int) (Q : RV → Prop) : r34 a b c Q = r34_t a b c Q := by kernel_rfl
noncomputable abbrev r62_x0 (a b c : Int) : Bool := errI (geoB a b c) != 0
noncomputable abbrev r62_x1 (b : Int) : Int := IntKind.i64.wrap (3 * b)
noncomputable abbrev r62_x2 (b : Int) : Bool := decide ¬(r62_x1 b) = 0
noncomputable abbrev r62_x3 (i : Int) : Int := IntKind.i64.wrap (i - 1)
noncomputable abbrev r62_x4 (b i : Int) : Int := (r62_x3 i).tmod (r62_x1 b)
noncomputable abbrev r62_x5 (b i : Int) : Int := IntKind.i64.wrap ((r62_x3 i).tdiv (r62_x1 b))
noncomputable abbrev r62_x6 (b i : Int) : Bool := decide ((r62_x5 b i) < 0)
noncomputable abbrev r62_x7 (a b i : Int) : Bool := decide ((r62_x5 b i) ≥ a)
noncomputable abbrev r62_x8 (a b : Int) : Int := IntKind.i64.wrap (IntKind.i64.wrap (3 * a) * b)
noncomputable def r62_t (a b : Int) (c i : Int) (Q : RV → Prop) : Option Prop := (bif decide (i < 1) then ( some ((All [] ∧ Q (RV.tup [AV.agg [Cell.int IntKind.i64 0, Cell.int IntKind.i64 0, Cell.int IntKind.i64 0, Cell.int IntKind.i64 0], AV.c (Cell.int IntKind.i64 2)]))) ) else ( (bif (r62_x0 a b c) then ( (bif decide (i > 0) then ( some ((All [] ∧ Q (RV.tup [AV.agg [Cell.int IntKind.i64 0, Cell.int IntKind.i64 0, Cell.int IntKind.i64 0, Cell.int IntKind.i64 0], AV.c (Cell.int IntKind.i64 2)]))) ) else ( (bif (r62_x2 b) then ( (bif (r62_x2 b) then ( (bif (r62_x0 a b c) then ( some ((All [] ∧ Q (RV.tup [AV.agg [Cell.int IntKind.i64 0, Cell.int IntKind.i64 ((r62_x4 b i).tmod 3), Cell.int IntKind.i64 (r62_x5 b i), Cell.int IntKind.i64 (r62_x4 b i)], AV.c (Cell.int IntKind.i64 0)]))) ) else ( (bif (r62_x6 b i) then ( some ((All [] ∧ Q (RV.tup [AV.agg [Cell.int IntKind.i64 0, Cell.int IntKind.i64 ((r62_x4 b i).tmod 3), Cell.int IntKind.i64 (r62_x5 b i), Cell.int IntKind.i64 (r62_x4 b i)], AV.c (Cell.int IntKind.i64 0)]))) ) else ( (bif (r62_x7 a b i) then ( some ((All [] ∧ Q (RV.tup [AV.agg [Cell.int IntKind.i64 0, Cell.int IntKind.i64 ((r62_x4 b i).tmod 3), Cell.int IntKind.i64 (r62_x5 b i), Cell.int IntKind.i64 (r62_x4 b i)], AV.c (Cell.int IntKind.i64 0)]))) ) else ( some ((All [] ∧ Q (RV.tup [AV.agg [Cell.int IntKind.i64 (IntKind.i64.wrap (IntKind.i64.wrap (2 + IntKind.i64.wrap ((r62_x5 b i) * IntKind.i64.wrap (IntKind.i64.wrap (2 + b) + c))) + IntKind.i64.wrap (2 + IntKind.i64.wrap ((r62_x4 b i).tdiv 3)))), Cell.int IntKind.i64 ((r62_x4 b i).tmod 3), Cell.int IntKind.i64 (r62_x5 b i), Cell.int IntKind.i64 (r62_x4 b i)], AV.c (Cell.int IntKind.i64 0)]))) )) )) )) ) else none) ) else none) )) ) else ( (bif decide (i > (r62_x8 a b)) then ( some ((All [] ∧ Q (RV.tup [AV.agg [Cell.int IntKind.i64 0, Cell.int IntKind.i64 0, Cell.int IntKind.i64 0, Cell.int IntKind.i64 0], AV.c (Cell.int IntKind.i64 2)]))) ) else ( (bif (r62_x2 b) then ( (bif (r62_x2 b) then ( (bif (r62_x0 a b c) then ( some ((All [] ∧ Q (RV.tup [AV.agg [Cell.int IntKind.i64 0, Cell.int IntKind.i64 ((r62_x4 b i).tmod 3), Cell.int IntKind.i64 (r62_x5 b i), Cell.int IntKind.i64 (r62_x4 b i)], AV.c (Cell.int IntKind.i64 0)]))) ) else ( (bif (r62_x6 b i) then ( some ((All [] ∧ Q (RV.tup [AV.agg [Cell.int IntKind.i64 0, Cell.int IntKind.i64 ((r62_x4 b i).tmod 3), Cell.int IntKind.i64 (r62_x5 b i), Cell.int IntKind.i64 (r62_x4 b i)], AV.c (Cell.int IntKind.i64 0)]))) ) else ( (bif (r62_x7 a b i) then ( some ((All [] ∧ Q (RV.tup [AV.agg [Cell.int IntKind.i64 0, Cell.int IntKind.i64 ((r62_x4 b i).tmod 3), Cell.int IntKind.i64 (r62_x5 b i), Cell.int IntKind.i64 (r62_x4 b i)], AV.c (Cell.int IntKind.i64 0)]))) ) else ( some ((All [] ∧ Q (RV.tup [AV.agg [Cell.int IntKind.i64 (IntKind.i64.wrap (IntKind.i64.wrap (2 + IntKind.i64.wrap ((r62_x5 b i) * IntKind.i64.wrap (IntKind.i64.wrap (2 + b) + c))) + IntKind.i64.wrap (2 + IntKind.i64.wrap ((r62_x4 b i).tdiv 3)))), Cell.int IntKind.i64 ((r62_x4 b i).tmod 3), Cell.int IntKind.i64 (r62_x5 b i), Cell.int IntKind.i64 (r62_x4 b i)], AV.c (Cell.int IntKind.i64 0)]))) )) )) )) ) else none) ) else none) )) )) ))
theorem r62_tree (a b : Int) (c i : Int) (Q : RV → Prop) : r62 a b c i Q = r62_t a b c i Q := by kernel_rfl
noncomputable abbrev r35_x0 (a b c : Int) : Bool := errI (geoB a b c) != 0
noncomputable abbrev r35_x1 (b : Int) : Int := IntKind.i64.wrap (3 * b)
noncomputable abbrev r35_x2 (b : Int) : Bool := decide ¬(r35_x1 b) = 0
noncomputable abbrev r35_x3 (i : Int) : Int := IntKind.i64.wrap (i - 1)
noncomputable abbrev r35_x4 (b i : Int) : Int := (r35_x3 i).tmod (r35_x1 b)
noncomputable abbrev r35_x5 (b i : Int) : Int := IntKind.i64.wrap ((r35_x4 b i).tdiv 3)
noncomputable abbrev r35_x6 (b i : Int) : Int := IntKind.i64.wrap ((r35_x3 i).tdiv (r35_x1 b))
noncomputable abbrev r35_x7 (b i : Int) : Bool := decide ((r35_x6 b i) < 0)
noncomputable abbrev r35_x8 (a b i : Int) : Bool := decide ((r35_x6 b i) ≥ a)
noncomputable abbrev r35_x9 (a b : Int) : Int := IntKind.i64.wrap (IntKind.i64.wrap (3 * a) * b)
noncomputable def r35_t (a b : Int) (c i : Int) (Q : RV → Prop) : Option Prop := (bif (r35_x0 a b c) then ( some ((All [] ∧ Q (RV.tup [AV.agg [Cell.int IntKind.i64 0, Cell.int IntKind.i64 0, Cell.int IntKind.i64 0, Cell.int IntKind.i64 0], AV.c (Cell.int IntKind.i64 2)]))) ) else ( (bif decide (i < 1) then ( some ((All [] ∧ Q (RV.tup [AV.agg [Cell.int IntKind.i64 0, Cell.int IntKind.i64 0, Cell.int IntKind.i64 0, Cell.int IntKind.i64 0], AV.c (Cell.int IntKind.i64 2)]))) ) else ( (bif (r35_x0 a b c) then ( (bif decide (i > 0) then ( some ((All [] ∧ Q (RV.tup [AV.agg [Cell.int IntKind.i64 0, Cell.int IntKind.i64 0, Cell.int IntKind.i64 0, Cell.int IntKind.i64 0], AV.c (Cell.int IntKind.i64 2)]))) ) else ( (bif (r35_x2 b) then ( (bif (r35_x2 b) then ( (bif (r35_x0 a b c) then ( some ((All [] ∧ Q (RV.tup [AV.agg [Cell.int IntKind.i64 (IntKind.i64.wrap (2 + (r35_x5 b i))), Cell.int IntKind.i64 ((r35_x4 b i).tmod 3), Cell.int IntKind.i64 (r35_x6 b i), Cell.int IntKind.i64 (r35_x4 b i)], AV.c (Cell.int IntKind.i64 0)]))) ) else ( (bif (r35_x7 b i) then ( some ((All [] ∧ Q (RV.tup [AV.agg [Cell.int IntKind.i64 (IntKind.i64.wrap (2 + (r35_x5 b i))), Cell.int IntKind.i64 ((r35_x4 b i).tmod 3), Cell.int IntKind.i64 (r35_x6 b i), Cell.int IntKind.i64 (r35_x4 b i)], AV.c (Cell.int IntKind.i64 0)]))) ) else ( (bif (r35_x8 a b i) then ( some ((All [] ∧ Q (RV.tup [AV.agg [Cell.int IntKind.i64 (IntKind.i64.wrap (2 + (r35_x5 b i))), Cell.int IntKind.i64 ((r35_x4 b i).tmod 3), Cell.int IntKind.i64 (r35_x6 b i), Cell.int IntKind.i64 (r35_x4 b i)], AV.c (Cell.int IntKind.i64 0)]))) ) else ( some ((All [] ∧ Q (RV.tup [AV.agg [Cell.int IntKind.i64 (IntKind.i64.wrap (IntKind.i64.wrap (IntKind.i64.wrap (2 + IntKind.i64.wrap ((r35_x6 b i) * IntKind.i64.wrap (IntKind.i64.wrap (2 + b) + c))) + 2) + (r35_x5 b i))), Cell.int IntKind.i64 ((r35_x4 b i).tmod 3), Cell.int IntKind.i64 (r35_x6 b i), Cell.int IntKind.i64 (r35_x4 b i)], AV.c (Cell.int IntKind.i64 0)]))) )) )) )) ) else none) ) else none) )) ) else ( (bif decide (i > (r35_x9 a b)) then ( some ((All [] ∧ Q (RV.tup [AV.agg [Cell.int IntKind.i64 0, Cell.int IntKind.i64 0, Cell.int IntKind.i64 0, Cell.int IntKind.i64 0], AV.c (Cell.int IntKind.i64 2)]))) ) else ( (bif (r35_x2 b) then ( (bif (r35_x2 b) then ( (bif (r35_x0 a b c) then ( some ((All [] ∧ Q (RV.tup [AV.agg [Cell.int IntKind.i64 (IntKind.i64.wrap (2 + (r35_x5 b i))), Cell.int IntKind.i64 ((r35_x4 b i).tmod 3), Cell.int IntKind.i64 (r35_x6 b i), Cell.int IntKind.i64 (r35_x4 b i)], AV.c (Cell.int IntKind.i64 0)]))) ) else ( (bif (r35_x7 b i) then ( some ((All [] ∧ Q (RV.tup [AV.agg [Cell.int IntKind.i64 (IntKind.i64.wrap (2 + (r35_x5 b i))), Cell.int IntKind.i64 ((r35_x4 b i).tmod 3), Cell.int IntKind.i64 (r35_x6 b i), Cell.int IntKind.i64 (r35_x4 b i)], AV.c (Cell.int IntKind.i64 0)]))) ) else ( (bif (r35_x8 a b i) then ( some ((All [] ∧ Q (RV.tup [AV.agg [Cell.int IntKind.i64 (IntKind.i64.wrap (2 + (r35_x5 b i))), Cell.int IntKind.i64 ((r35_x4 b i).tmod 3), Cell.int IntKind.i64 (r35_x6 b i), Cell.int IntKind.i64 (r35_x4 b i)], AV.c (Cell.int IntKind.i64 0)]))) ) else ( some ((All [] ∧ Q (RV.tup [AV.agg [Cell.int IntKind.i64 (IntKind.i64.wrap (IntKind.i64.wrap (IntKind.i64.wrap (2 + IntKind.i64.wrap ((r35_x6 b i) * IntKind.i64.wrap (IntKind.i64.wrap (2 + b) + c))) + 2) + (r35_x5 b i))), Cell.int IntKind.i64 ((r35_x4 b i).tmod 3), Cell.int IntKind.i64 (r35_x6 b i), Cell.int IntKind.i64 (r35_x4 b i)], AV.c (Cell.int IntKind.i64 0)]))) )) )) )) ) else none) ) else none) )) )) )) ))
theorem r35_tree (a b : Int) (c i : Int) (Q : RV → Prop) : r35 a b c i Q = r35_t a b c i Q := by kernel_rfl

/-- how many inodes there are -/
def inoN (a b c : Int) : Int := if geoB a b c then 3 * a * b else 0
def fInN (args : List RV) : Option (RV × List Prop) := match args with
  | [.one (.agg [.int .i64 a, .int .i64 b, .int .i64 c])] => some (.one (.c (.int .i64 (inoN a b c))), [])
  | _ => none
theorem ab_small {a b c : Int} (h : geoB a b c = true) : 3 ≤ 3 * a * b ∧ 3 * a * b ≤ 192 := by
  obtain ⟨g1, g2, g3, g4, g5, g6⟩ := geoB_iff.1 h
  have h1 : 3 * a * 1 ≤ 3 * a * b := Int.mul_le_mul_of_nonneg_left g3 (by omega)
  have h2 : 3 * a * b ≤ 3 * a * 8 := Int.mul_le_mul_of_nonneg_left g4 (by omega)
  omega
theorem inoN_wrap {a b c : Int} (h : geoB a b c = true) : IntKind.i64.wrap (IntKind.i64.wrap (3 * a) * b) = 3 * a * b := by
  obtain ⟨g1, g2, g3, g4, g5, g6⟩ := geoB_iff.1 h
  have := ab_small h
  rw [IntWalk.i64_in (3 * a) (by omega), IntWalk.i64_in _ (by omega)]
theorem fInN_ok (f : FuncId) (hr : ∀ a b c (Q : RV → Prop), runA Tryz.prog sgJ1 300 f [geoA a b c] s0 αT (fun v _ α => some (All α.ob ∧ Q v)) = r61_t a b c Q) : PureOK Tryz.prog f fInN := by
  intro args v ps h hp ρ w vs ha
  unfold fInN at h
  split at h <;> try (cases h; done)
  rename_i a b c
  simp only [Option.some.injEq, Prod.mk.injEq] at h
  obtain ⟨rfl, rfl⟩ := h
  refine pure_tree fitJ1 (by rfl) (by rfl) (.of_eq (hr a b c _) ?_) ρ w vs ha
  unfold inoN
  cases hg : geoB a b c with
  | false => exact .yes (by rw [errI_ne, hg]; rfl) ⟨trivial, rfl⟩
  | true => exact .no (by rw [errI_ne, hg]; rfl) ⟨trivial, by rw [inoN_wrap hg]; rfl⟩
theorem fInN61 : PureOK Tryz.prog 92 fInN := fInN_ok 92 r61_tree
theorem fInN34 : PureOK Tryz.prog 51 fInN := fInN_ok 51 r34_tree
/-- sector, slot, group, number in it -/
def inoP (b c i : Int) : Int × Int × Int × Int := (2 + (i - 1) / (3 * b) * (2 + b + c) + 2 + (i - 1) % (3 * b) / 3, (i - 1) % (3 * b) % 3, (i - 1) / (3 * b), (i - 1) % (3 * b))
def inoB (a b c i : Int) : Bool := geoB a b c && (decide (1 ≤ i) && decide (i ≤ 3 * a * b))
def fIno (args : List RV) : Option (RV × List Prop) := match args with
  | [.one (.agg [.int .i64 a, .int .i64 b, .int .i64 c]), .one (.c (.int .i64 i))] => some (.tup [.agg [.int .i64 (sel (inoB a b c i) (inoP b c i).1), .int .i64 (sel (inoB a b c i) (inoP b c i).2.1), .int .i64 (sel (inoB a b c i) (inoP b c i).2.2.1), .int .i64 (sel (inoB a b c i) (inoP b c i).2.2.2)], .c (.int .i64 (if inoB a b c i then 0 else 2))], [])
  | _ => none
structure InoF (a b c i : Int) : Prop where
  k0 : 0 ≤ (i - 1) / (3 * b)
  k1 : (i - 1) / (3 * b) < a
  r0 : 0 ≤ (i - 1) % (3 * b)
  r1 : (i - 1) % (3 * b) < 3 * b
  m0 : 0 ≤ (i - 1) / (3 * b) * (2 + b + c)
  m1 : (i - 1) / (3 * b) * (2 + b + c) + (2 + b + c) ≤ a * (2 + b + c)
  d0 : 0 ≤ (i - 1) % (3 * b) / 3
  d1 : (i - 1) % (3 * b) / 3 < b
theorem inoF {a b c i : Int} (hg : geoB a b c = true) (h0 : 1 ≤ i) (h1 : i ≤ 3 * a * b) : InoF a b c i := by
  obtain ⟨g1, g2, g3, g4, g5, g6⟩ := geoB_iff.1 hg
  have hk : (i - 1) / (3 * b) < a := Int.ediv_lt_of_lt_mul (by omega) (by rw [← Int.mul_assoc, Int.mul_comm a 3]; omega)
  have hk0 : 0 ≤ (i - 1) / (3 * b) := Int.ediv_nonneg (by omega) (by omega)
  have r1 := Int.emod_lt_of_pos (i - 1) (show 0 < 3 * b by omega)
  have r0 := Int.emod_nonneg (i - 1) (show 3 * b ≠ 0 by omega)
  have m1 : ((i - 1) / (3 * b) + 1) * (2 + b + c) ≤ a * (2 + b + c) := Int.mul_le_mul_of_nonneg_right (by omega) (by omega)
  rw [Int.add_mul, Int.one_mul] at m1
  exact ⟨hk0, hk, r0, r1, Int.mul_nonneg hk0 (by omega), m1, by omega, by omega⟩
theorem tdiv_ed {x y : Int} (h : 0 ≤ x) : x.tdiv y = x / y := Int.tdiv_eq_ediv_of_nonneg h
theorem tmod_em {x y : Int} (h : 0 ≤ x) : x.tmod y = x % y := Int.tmod_eq_emod_of_nonneg h
theorem inoB_f {a b c i : Int} (h : geoB a b c = false ∨ i < 1 ∨ i > 3 * a * b) : inoB a b c i = false := by
  unfold inoB
  rcases h with h | h | h
  · rw [h]; rfl
  · rw [show decide (1 ≤ i) = false by simp; omega]; simp
  · rw [show decide (i ≤ 3 * a * b) = false by simp; omega]; simp
theorem fIno62 : PureOK Tryz.prog 93 fIno := by
  intro args v ps h hp ρ w vs ha
  unfold fIno at h
  split at h <;> try (cases h; done)
  rename_i a b c i
  simp only [Option.some.injEq, Prod.mk.injEq] at h
  obtain ⟨rfl, rfl⟩ := h
  refine pure_tree fitJ1 (by rfl) (by rfl) (.of_eq (r62_tree a b c i _) ?_) ρ w vs ha
  unfold r62_t
  by_cases h0 : i < 1
  · rw [inoB_f (.inr (.inl h0))]
    exact .yes (by simp; exact h0) ⟨trivial, rfl⟩
  refine .no (by simp; omega) ?_
  cases hg : geoB a b c with
  | false =>
    rw [inoB_f (.inl hg)]
    exact .yes (by show (errI (geoB a b c) != 0) = true; rw [errI_ne, hg]; rfl) (.yes (by simp; omega) ⟨trivial, rfl⟩)
  | true =>
    have e0 : r62_x0 a b c = false := by show (errI (geoB a b c) != 0) = false; rw [errI_ne, hg]; rfl
    obtain ⟨g1, g2, g3, g4, g5, g6⟩ := geoB_iff.1 hg
    refine .no e0 ?_
    have e8 : r62_x8 a b = 3 * a * b := inoN_wrap hg
    have hab := ab_small hg
    by_cases h1 : i > 3 * a * b
    · rw [inoB_f (.inr (.inr h1))]
      exact .yes (by rw [e8]; simp; exact h1) ⟨trivial, rfl⟩
    · have F := inoF hg (by omega) (show i ≤ 3 * a * b by omega)
      have hb := mul_bd hg
      obtain ⟨f1, f2, f3, f4, f5, f6, f7, f8⟩ := F
      have hB : inoB a b c i = true := by unfold inoB; rw [hg]; simp; omega
      have e1 : r62_x1 b = 3 * b := IntWalk.i64_in _ (by omega)
      have e2 : r62_x2 b = true := by show decide (¬ r62_x1 b = 0) = true; rw [e1]; simp; omega
      have e3 : r62_x3 i = i - 1 := IntWalk.i64_in _ (by omega)
      have e4 : r62_x4 b i = (i - 1) % (3 * b) := by show (r62_x3 i).tmod (r62_x1 b) = _; rw [e3, e1, tmod_em (by omega)]
      have e5 : r62_x5 b i = (i - 1) / (3 * b) := by show IntKind.i64.wrap ((r62_x3 i).tdiv (r62_x1 b)) = _; rw [e3, e1, tdiv_ed (by omega)]; exact IntWalk.i64_in _ (by omega)
      have e6 : r62_x6 b i = false := by show decide (r62_x5 b i < 0) = false; rw [e5]; simp; omega
      have e7 : r62_x7 a b i = false := by show decide (r62_x5 b i ≥ a) = false; rw [e5]; simp; omega
      refine .no (by rw [e8]; simp; omega) (.chk e2 (.chk e2 (.no e0 (.no e6 (.no e7 ⟨trivial, ?_⟩)))))
      rw [e4, e5, tmod_em f3, tdiv_ed f3, IntWalk.i64_in (2 + b) (by omega), IntWalk.i64_in (2 + b + c) (by omega), IntWalk.i64_in ((i - 1) / (3 * b) * (2 + b + c)) (by omega), IntWalk.i64_in ((i - 1) % (3 * b) / 3) (by omega),
        IntWalk.i64_in (2 + (i - 1) / (3 * b) * (2 + b + c)) (by omega), IntWalk.i64_in (2 + (i - 1) % (3 * b) / 3) (by omega), IntWalk.i64_in _ (by omega)]
      rw [hB]
      unfold sel inoP
      rw [show 2 + (i - 1) / (3 * b) * (2 + b + c) + (2 + (i - 1) % (3 * b) / 3) = 2 + (i - 1) / (3 * b) * (2 + b + c) + 2 + (i - 1) % (3 * b) / 3 by omega]
      rfl
theorem fIno35 : PureOK Tryz.prog 52 fIno := by
  intro args v ps h hp ρ w vs ha
  unfold fIno at h
  split at h <;> try (cases h; done)
  rename_i a b c i
  simp only [Option.some.injEq, Prod.mk.injEq] at h
  obtain ⟨rfl, rfl⟩ := h
  refine pure_tree fitJ1 (by rfl) (by rfl) (.of_eq (r35_tree a b c i _) ?_) ρ w vs ha
  unfold r35_t
  cases hg : geoB a b c with
  | false =>
    rw [inoB_f (.inl hg)]
    exact .yes (by show (errI (geoB a b c) != 0) = true; rw [errI_ne, hg]; rfl) ⟨trivial, rfl⟩
  | true =>
    have e0 : r35_x0 a b c = false := by show (errI (geoB a b c) != 0) = false; rw [errI_ne, hg]; rfl
    obtain ⟨g1, g2, g3, g4, g5, g6⟩ := geoB_iff.1 hg
    refine .no e0 ?_
    by_cases h0 : i < 1
    · rw [inoB_f (.inr (.inl h0))]
      exact .yes (by simp; exact h0) ⟨trivial, rfl⟩
    refine .no (by simp; omega) (.no e0 ?_)
    have e9 : r35_x9 a b = 3 * a * b := inoN_wrap hg
    have hab := ab_small hg
    by_cases h1 : i > 3 * a * b
    · rw [inoB_f (.inr (.inr h1))]
      exact .yes (by rw [e9]; simp; exact h1) ⟨trivial, rfl⟩
    · have F := inoF hg (by omega) (show i ≤ 3 * a * b by omega)
      have hb := mul_bd hg
      obtain ⟨f1, f2, f3, f4, f5, f6, f7, f8⟩ := F
      have hB : inoB a b c i = true := by unfold inoB; rw [hg]; simp; omega
      have e1 : r35_x1 b = 3 * b := IntWalk.i64_in _ (by omega)
      have e2 : r35_x2 b = true := by show decide (¬ r35_x1 b = 0) = true; rw [e1]; simp; omega
      have e3 : r35_x3 i = i - 1 := IntWalk.i64_in _ (by omega)
      have e4 : r35_x4 b i = (i - 1) % (3 * b) := by show (r35_x3 i).tmod (r35_x1 b) = _; rw [e3, e1, tmod_em (by omega)]
      have e5 : r35_x5 b i = (i - 1) % (3 * b) / 3 := by show IntKind.i64.wrap ((r35_x4 b i).tdiv 3) = _; rw [e4, tdiv_ed f3]; exact IntWalk.i64_in _ (by omega)
      have e6 : r35_x6 b i = (i - 1) / (3 * b) := by show IntKind.i64.wrap ((r35_x3 i).tdiv (r35_x1 b)) = _; rw [e3, e1, tdiv_ed (by omega)]; exact IntWalk.i64_in _ (by omega)
      have e7 : r35_x7 b i = false := by show decide (r35_x6 b i < 0) = false; rw [e6]; simp; omega
      have e8 : r35_x8 a b i = false := by show decide (r35_x6 b i ≥ a) = false; rw [e6]; simp; omega
      refine .no (by rw [e9]; simp; omega) (.chk e2 (.chk e2 (.no e0 (.no e7 (.no e8 ⟨trivial, ?_⟩)))))
      rw [e4, e5, e6, tmod_em f3, IntWalk.i64_in (2 + b) (by omega), IntWalk.i64_in (2 + b + c) (by omega), IntWalk.i64_in ((i - 1) / (3 * b) * (2 + b + c)) (by omega),
        IntWalk.i64_in (2 + (i - 1) / (3 * b) * (2 + b + c)) (by omega), IntWalk.i64_in (2 + (i - 1) / (3 * b) * (2 + b + c) + 2) (by omega), IntWalk.i64_in _ (by omega)]
      rw [hB]
      unfold sel inoP
      rfl
end Go.Sx

namespace Go.Sx
open Go.Proofs Go.RowKit
set_option maxRecDepth 100000
/-! ### an inode out of a load, and into it -/
noncomputable abbrev r66 (p : List Int) (n : Int) (Q : RV → Prop) : Option Prop := runA Tryz.prog sg00 300 87 [.one (.ints .u8 p 54), .one (.c (.int .i64 n))] s0 αT fun v _ α => some (All α.ob ∧ Q v)
def le16u (x y : Int) : Int := IntKind.u16.wrap (or32 (or32 0 (shl32 x 0)) (shl32 y 8))
def dec18 (b : List Int) : Fi.Ino9 := ⟨b.getD 0 0, b.getD 1 0, le32 (b.getD 2 0) (b.getD 3 0) (b.getD 4 0) (b.getD 5 0), le16u (b.getD 6 0) (b.getD 7 0), le16u (b.getD 8 0) (b.getD 9 0), le16u (b.getD 10 0) (b.getD 11 0), le16u (b.getD 12 0) (b.getD 13 0), le16u (b.getD 14 0) (b.getD 15 0), le16u (b.getD 16 0) (b.getD 17 0)⟩
abbrev lo (x : Int) : Int := IntKind.u8.wrap x
abbrev hi (x : Int) : Int := IntKind.u8.wrap (x.fdiv 256)
def enc18 (y : Fi.Ino9) : List Int := [y.k, y.l, IntKind.u8.wrap (y.s.fdiv 1), hi y.s, IntKind.u8.wrap (y.s.fdiv 65536), IntKind.u8.wrap (y.s.fdiv 16777216), lo y.d0, hi y.d0, lo y.d1, hi y.d1, lo y.d2, hi y.d2, lo y.d3, hi y.d3, lo y.sg, hi y.sg, lo y.db, hi y.db]
abbrev slot18 (p : List Int) (o : Nat) : List Int := (p.drop o).take 18
theorem r66a_run (p : List Int) (Q : RV → Prop) : r66 p 0 Q = some (All [] ∧ Q (.tup [.agg (dec18 (slot18 p 0)).L, .c (.int .i64 0)])) := by kernel_rfl
theorem r66b_run (p : List Int) (Q : RV → Prop) : r66 p 1 Q = some (All [] ∧ Q (.tup [.agg (dec18 (slot18 p 18)).L, .c (.int .i64 0)])) := by kernel_rfl
theorem r66c_run (p : List Int) (Q : RV → Prop) : r66 p 2 Q = some (All [] ∧ Q (.tup [.agg (dec18 (slot18 p 36)).L, .c (.int .i64 0)])) := by kernel_rfl
noncomputable def r88 (p : List Int) (n k l s d0 d1 d2 d3 sg db : Int) : Option (RV × List Prop) := runA Tryz.prog sg00 300 89 [.one (.ints .u8 p 54), .one (.c (.int .i64 n)), .one (.agg [.int .u8 k, .int .u8 l, .int .u32 s, .int .u16 d0, .int .u16 d1, .int .u16 d2, .int .u16 d3, .int .u16 sg, .int .u16 db])] s0 ⟨0, [], []⟩ fun v _ α => some (v, α.ob)
theorem r88a_run (p : List Int) (k l s d0 d1 d2 d3 sg db : Int) : r88 p 0 k l s d0 d1 d2 d3 sg db = some (.tup [.ints .u8 (t54 (over z54 0 (t54 (over p 0 (enc18 ⟨k, l, s, d0, d1, d2, d3, sg, db⟩))))) 54, .c (.int .i64 0)], []) := by kernel_rfl
theorem r88b_run (p : List Int) (k l s d0 d1 d2 d3 sg db : Int) : r88 p 1 k l s d0 d1 d2 d3 sg db = some (.tup [.ints .u8 (t54 (over z54 0 (t54 (over p 18 (enc18 ⟨k, l, s, d0, d1, d2, d3, sg, db⟩))))) 54, .c (.int .i64 0)], []) := by kernel_rfl
theorem r88c_run (p : List Int) (k l s d0 d1 d2 d3 sg db : Int) : r88 p 2 k l s d0 d1 d2 d3 sg db = some (.tup [.ints .u8 (t54 (over z54 0 (t54 (over p 36 (enc18 ⟨k, l, s, d0, d1, d2, d3, sg, db⟩))))) 54, .c (.int .i64 0)], []) := by kernel_rfl
/-! ### there and back -/
theorem le16u_eq {x y : Int} (hx : 0 ≤ x ∧ x < 256) (hy : 0 ≤ y ∧ y < 256) : le16u x y = x + 256 * y := by
  unfold le16u
  rw [(shl_eq hx).1, (shl_eq hy).2.1]
  have k0 : or32 0 x = 0 + x := or32_add (a := x) 0 (by omega) (by decide) (by omega) (by simp) ⟨by omega, by omega⟩ ⟨by omega, by omega⟩ ⟨by omega, by omega⟩
  have k1 : or32 x (256 * y) = x + 256 * y := or32_add (a := y) 8 (by omega) (by simpa using hx.2) (by omega) (by simp) ⟨by omega, by omega⟩ ⟨by omega, by omega⟩ ⟨by omega, by omega⟩
  rw [k0, Int.zero_add, k1, wrap_u16]; omega
theorem fdiv_e {x k : Int} (hk : 0 ≤ k) : x.fdiv k = x / k := Int.fdiv_eq_ediv_of_nonneg _ hk
abbrev U8 (x : Int) : Prop := 0 ≤ x ∧ x < 256
/-- numbers of their sizes -/
structure In9 (y : Fi.Ino9) : Prop where
  k : U8 y.k
  l : U8 y.l
  s : U32 y.s
  d0 : Fi.U16 y.d0
  d1 : Fi.U16 y.d1
  d2 : Fi.U16 y.d2
  d3 : Fi.U16 y.d3
  sg : Fi.U16 y.sg
  db : Fi.U16 y.db
theorem In9.ok {y : Fi.Ino9} (h : In9 y) : y.Ok := ⟨h.k.1, h.s.1, h.s.2, h.d0, h.d1, h.d2, h.d3, h.sg, h.db⟩
theorem hilo {x y : Int} (hx : U8 x) (hy : U8 y) : lo (le16u x y) = x ∧ hi (le16u x y) = y := by
  rw [le16u_eq hx hy]
  constructor
  · show IntKind.u8.wrap _ = _; rw [wrap_u8]; omega
  · show IntKind.u8.wrap (Int.fdiv _ 256) = _; rw [fdiv_e (by decide), wrap_u8]; omega
theorem size_there {a b c d : Int} (ha : U8 a) (hb : U8 b) (hc : U8 c) (hd : U8 d) : IntKind.u8.wrap ((le32 a b c d).fdiv 1) = a ∧ hi (le32 a b c d) = b ∧ IntKind.u8.wrap ((le32 a b c d).fdiv 65536) = c ∧ IntKind.u8.wrap ((le32 a b c d).fdiv 16777216) = d := by
  rw [le32_num ha hb hc hd]
  have h := put32_num ha hb hc hd
  have e : put32 (num4 a b c d) = [IntKind.u8.wrap ((num4 a b c d).fdiv 1), IntKind.u8.wrap ((num4 a b c d).fdiv 256), IntKind.u8.wrap ((num4 a b c d).fdiv 65536), IntKind.u8.wrap ((num4 a b c d).fdiv 16777216)] := rfl
  rw [e] at h
  injection h with e0 h
  injection h with e1 h
  injection h with e2 h
  injection h with e3 h
  exact ⟨e0, e1, e2, e3⟩
theorem eighteen {b : List Int} (h : b.length = 18) : ∃ x0 x1 x2 x3 x4 x5 x6 x7 x8 x9 y0 y1 y2 y3 y4 y5 y6 y7, b = [x0, x1, x2, x3, x4, x5, x6, x7, x8, x9, y0, y1, y2, y3, y4, y5, y6, y7] := by
  match b, h with
  | [x0, x1, x2, x3, x4, x5, x6, x7, x8, x9, y0, y1, y2, y3, y4, y5, y6, y7], _ => exact ⟨x0, x1, x2, x3, x4, x5, x6, x7, x8, x9, y0, y1, y2, y3, y4, y5, y6, y7, rfl⟩
theorem enc_dec {b : List Int} (h : b.length = 18) (hy : Bytes b) : enc18 (dec18 b) = b := by
  obtain ⟨x0, x1, x2, x3, x4, x5, x6, x7, x8, x9, y0, y1, y2, y3, y4, y5, y6, y7, rfl⟩ := eighteen h
  have B : ∀ x, x ∈ [x0, x1, x2, x3, x4, x5, x6, x7, x8, x9, y0, y1, y2, y3, y4, y5, y6, y7] → U8 x := hy
  unfold dec18 enc18
  simp only [List.getD_cons_zero, List.getD_cons_succ]
  obtain ⟨s0, s1, s2, s3⟩ := size_there (B x2 (by simp)) (B x3 (by simp)) (B x4 (by simp)) (B x5 (by simp))
  have a0 := hilo (B x6 (by simp)) (B x7 (by simp))
  have a1 := hilo (B x8 (by simp)) (B x9 (by simp))
  have a2 := hilo (B y0 (by simp)) (B y1 (by simp))
  have a3 := hilo (B y2 (by simp)) (B y3 (by simp))
  have a4 := hilo (B y4 (by simp)) (B y5 (by simp))
  have a5 := hilo (B y6 (by simp)) (B y7 (by simp))
  rw [s0, s1, s2, s3, a0.1, a0.2, a1.1, a1.2, a2.1, a2.2, a3.1, a3.2, a4.1, a4.2, a5.1, a5.2]
theorem enc_len (y : Fi.Ino9) : (enc18 y).length = 18 := rfl
theorem u8_bd (x : Int) : U8 (IntKind.u8.wrap x) := by rw [wrap_u8]; constructor <;> omega
theorem bytes_enc {y : Fi.Ino9} (hk : U8 y.k) (hl : U8 y.l) : Bytes (enc18 y) := by
  intro x hx
  unfold enc18 at hx
  simp only [List.mem_cons, List.not_mem_nil, or_false] at hx
  rcases hx with rfl | rfl | rfl | rfl | rfl | rfl | rfl | rfl | rfl | rfl | rfl | rfl | rfl | rfl | rfl | rfl | rfl | rfl <;> first | exact hk | exact hl | exact u8_bd _
theorem le16u_bd (x y : Int) : Fi.U16 (le16u x y) := by unfold le16u; rw [wrap_u16]; constructor <;> omega
theorem dec_in {b : List Int} (hy : Bytes b) : In9 (dec18 b) :=
  ⟨hy.getD 0, hy.getD 1, wrap_u32_b _, le16u_bd _ _, le16u_bd _ _, le16u_bd _ _, le16u_bd _ _, le16u_bd _ _, le16u_bd _ _⟩
/-! slots -/
theorem over_same {p : List Int} {o : Nat} (h : o + 18 ≤ p.length) : over p o (slot18 p o) = p := by
  unfold over
  have hl : (slot18 p o).length = 18 := by simp [slot18]; omega
  rw [hl]
  show p.take o ++ (p.drop o).take 18 ++ p.drop (o + 18) = p
  rw [List.append_assoc, show p.drop (o + 18) = (p.drop o).drop 18 by rw [List.drop_drop], List.take_append_drop, List.take_append_drop]
/-! the summaries -/
def fAt (args : List RV) : Option (RV × List Prop) := match args with
  | [.one (.ints .u8 p 54), .one (.c (.int .i64 n))] => some (.tup [.agg (dec18 (slot18 p (18 * n.toNat))).L, .c (.int .i64 0)], [0 ≤ n ∧ n ≤ 2])
  | _ => none
theorem fAt_ok : PureOK Tryz.prog 87 fAt := by
  intro args v ps h hp ρ w vs ha
  unfold fAt at h
  split at h <;> try (cases h; done)
  rename_i p n
  simp only [Option.some.injEq, Prod.mk.injEq] at h
  obtain ⟨rfl, rfl⟩ := h
  obtain ⟨⟨h0, h1⟩, _⟩ := hp
  rcases (show n = 0 ∨ n = 1 ∨ n = 2 by omega) with rfl | rfl | rfl
  · rw [show 18 * Int.toNat 0 = 0 from rfl]
    exact pure_tree fit00 (by rfl) (by rfl) (.of_eq (r66a_run p _) ⟨trivial, rfl⟩) ρ w vs ha
  · rw [show 18 * Int.toNat 1 = 18 from rfl]
    exact pure_tree fit00 (by rfl) (by rfl) (.of_eq (r66b_run p _) ⟨trivial, rfl⟩) ρ w vs ha
  · rw [show 18 * Int.toNat 2 = 36 from rfl]
    exact pure_tree fit00 (by rfl) (by rfl) (.of_eq (r66c_run p _) ⟨trivial, rfl⟩) ρ w vs ha
def fWi (args : List RV) : Option (RV × List Prop) := match args with
  | [.one (.ints .u8 p 54), .one (.c (.int .i64 n)), .one (.agg [.int .u8 k, .int .u8 l, .int .u32 s, .int .u16 d0, .int .u16 d1, .int .u16 d2, .int .u16 d3, .int .u16 sg, .int .u16 db])] => some (.tup [.ints .u8 (over p (18 * n.toNat) (enc18 ⟨k, l, s, d0, d1, d2, d3, sg, db⟩)) 54, .c (.int .i64 0)], [0 ≤ n ∧ n ≤ 2])
  | _ => none
theorem over_len18 {p e : List Int} {o : Nat} (hp : p.length = 54) (he : e.length = 18) (h : o ≤ 36) : (over p o e).length = 54 := by rw [over_len (by omega)]; exact hp
theorem fWi_ok : PureOK Tryz.prog 89 fWi := by
  intro args v ps h hp ρ w vs ha
  unfold fWi at h
  split at h <;> try (cases h; done)
  rename_i p n k l s d0 d1 d2 d3 sg db
  simp only [Option.some.injEq, Prod.mk.injEq] at h
  obtain ⟨rfl, rfl⟩ := h
  obtain ⟨⟨h0, h1⟩, _⟩ := hp
  have hpl : p.length = 54 := by obtain ⟨_, _, h, _⟩ := ha; exact h.1
  have e : ∀ o, o ≤ 36 → t54 (over z54 0 (t54 (over p o (enc18 ⟨k, l, s, d0, d1, d2, d3, sg, db⟩)))) = over p o (enc18 ⟨k, l, s, d0, d1, d2, d3, sg, db⟩) := fun o ho => by
    have hl := over_len18 hpl (enc_len ⟨k, l, s, d0, d1, d2, d3, sg, db⟩) ho
    rw [show t54 (over p o (enc18 ⟨k, l, s, d0, d1, d2, d3, sg, db⟩)) = _ from take_all hl, over_z54 hl, show t54 (over p o (enc18 ⟨k, l, s, d0, d1, d2, d3, sg, db⟩)) = _ from take_all hl]
  rcases (show n = 0 ∨ n = 1 ∨ n = 2 by omega) with rfl | rfl | rfl
  · rw [show 18 * Int.toNat 0 = 0 from rfl]
    have hr := r88a_run p k l s d0 d1 d2 d3 sg db
    rw [e 0 (by omega)] at hr
    exact pure_path fit00 (by rfl) (by rfl) hr trivial ρ w vs ha
  · rw [show 18 * Int.toNat 1 = 18 from rfl]
    have hr := r88b_run p k l s d0 d1 d2 d3 sg db
    rw [e 18 (by omega)] at hr
    exact pure_path fit00 (by rfl) (by rfl) hr trivial ρ w vs ha
  · rw [show 18 * Int.toNat 2 = 36 from rfl]
    have hr := r88c_run p k l s d0 d1 d2 d3 sg db
    rw [e 36 (by omega)] at hr
    exact pure_path fit00 (by rfl) (by rfl) hr trivial ρ w vs ha
end Go.Sx

namespace Go.Sx
open Go.Proofs Go.RowKit
set_option maxRecDepth 100000
/-! ### what reads an image, as a summary -/
noncomputable def sumRd (G : List RV → Int → Int → Int → List Int → Nat → Int → Option (RV × List Prop)) : SumA := fun args hp nx => match args with
  | .one (.c (.ptr nm 0)) :: xs => match imgArg hp.get nm with
    | some (a, b, c, L, N, n, sc, _, _, _, _) => match G xs a b c L n sc with
      | some (v, ps) => some (v, hp, nx, [], (L.length = N) :: (N = 64 * n) :: ps)
      | none => none
    | none => none
  | _ => none
theorem sumRd_ok {f : FuncId} (hfn : ∃ fn, Tryz.prog.funcs[f]? = some fn ∧ fn.body.isNone = false) {G : List RV → Int → Int → Int → List Int → Nat → Int → Option (RV × List Prop)}
    (hx : ∀ xs a b c L n sc v ps, G xs a b c L n sc = some (v, ps) → xs.all flatR = true ∧ flatR v = true)
    (hG : ∀ xs a b c L n sc v ps, G xs a b c L n sc = some (v, ps) → All ps → L.length = 64 * n → ∀ (t0 : TypeId) (op : Option Nat) (t1 : TypeId) (out : Int) (ρ : Rho) (w : World) (vs : List Value), HRel ρ (imgS t0 op t1 a b c L (64 * n) n sc out).get w → Fresh ρ 3 → ArgsR ρ (.one (.c (.ptr 0 0)) :: xs) vs →
      Calls Tryz.prog f vs.toArray w fun e w' => ∃ V ρ' hp' nx' L', e = .returned V ∧ RVR ρ' v V ∧ Stp ρ (imgS t0 op t1 a b c L (64 * n) n sc out).get 3 w ρ' hp' nx' w' L') : SumAOK Tryz.prog f (sumRd G) := by
  intro args s v hp nx lg ps ht h hps
  unfold sumRd at h
  split at h <;> try (cases h; done)
  rename_i nm xs
  split at h <;> try (cases h; done)
  rename_i a b c L N n sc out t0 op t1 hi
  split at h <;> try (cases h; done)
  rename_i v1 ps1 hg
  simp only [Option.some.injEq, Prod.mk.injEq] at h
  obtain ⟨rfl, rfl, rfl, rfl, rfl⟩ := h
  obtain ⟨hl, hN, hps⟩ := hps
  subst hN
  obtain ⟨hfx, hfv⟩ := hx _ _ _ _ _ _ _ _ _ hg
  obtain ⟨θ, e0, hin⟩ := imgArg_ok hi
  have ex : xs.map (renR θ) = xs := (List.map_congr_left fun c hc => renR_flat (List.all_eq_true.1 hfx c hc)).trans (List.map_id xs)
  have ea : ((.one (.c (.ptr 0 0)) : RV) :: xs).map (renR θ) = .one (.c (.ptr nm 0)) :: xs := by
    rw [List.map_cons, ex]; simp [renR, renA, renC, e0]
  have := CallInfo.small (P := Tryz.prog) (f := f) (args := .one (.c (.ptr 0 0)) :: xs) (v := v1) (k := 3) (hs := imgS t0 op t1 a b c L (64 * n) n sc out) (θ := θ) (s := s) ht hfn (hG _ _ _ _ _ _ _ _ _ hg hps hl t0 op t1 out) hin
    (List.all_eq_true.2 fun c hc => by
      rcases List.mem_cons.1 hc with rfl | hc
      · rfl
      · exact inR_flat (List.all_eq_true.1 hfx c hc)) hfv
  rw [ea] at this
  exact this
/-! ### an inode of an image: f36 -/
noncomputable def sgJ3 : FuncId → Option SumA := fun f => match f with | 93 => some (pureSum fIno) | 47 => some sumLd | 87 => some (pureSum fAt) | _ => none
theorem fitJ3 : Fit Tryz.prog (fun f => (sgJ3 f).map toSum) := ⟨fit_ng, fit_mixed, SumAOK.sum fun f sm h => by
  unfold sgJ3 at h
  split at h
  · cases h; exact fIno62.sum ⟨_, Tryz.func93, rfl⟩
  · cases h; exact sumLd_ok
  · cases h; exact fAt_ok.sum ⟨_, Tryz.func87, rfl⟩
  · cases h⟩
noncomputable def r36 (t0 : TypeId) (op : Option Nat) (t1 : TypeId) (a b c : Int) (L : List Int) (N n : Nat) (sc out i : Int) (Q : RV → Prop) : Option Prop := runA Tryz.prog sgJ3 300 21 [.one (.c (.ptr 0 0)), .one (.c (.int .i64 i))] ⟨.nil, imgS t0 op t1 a b c L N n sc out, 3, []⟩ αT fun v _ α => some (All α.ob ∧ Q v)
theorem r36_run (t0 : TypeId) (op : Option Nat) (t1 : TypeId) (a b c : Int) (L : List Int) (N n : Nat) (sc out i : Int) (Q : RV → Prop) : r36 t0 op t1 a b c L N n sc out i Q =
 (bif (if inoB a b c i = true then (0 : Int) else 2) != 0 then some (All [] ∧ Q (.tup [.agg Fi.Ino9.zero.L, .c (.bool false)]))
  else bif !ldOk L n (sel (inoB a b c i) (inoP b c i).1) 4 then some (All [L.length = N, N = 64 * n] ∧ Q (.tup [.agg Fi.Ino9.zero.L, .c (.bool false)]))
  else some (All [0 ≤ sel (inoB a b c i) (inoP b c i).2.1 ∧ sel (inoB a b c i) (inoP b c i).2.1 ≤ 2, L.length = N, N = 64 * n] ∧ Q (.tup [.agg (dec18 (slot18 (t54 (over z54 0 (t54 (over z54 0 (t54 (over z54 0 (ldP L n (sel (inoB a b c i) (inoP b c i).1) 4))))))) (18 * (sel (inoB a b c i) (inoP b c i).2.1).toNat))).L, .c (.bool true)]))) := by kernel_rfl
noncomputable def inoOk (a b c : Int) (L : List Int) (n : Nat) (i : Int) : Bool := inoB a b c i && ldOk L n (inoP b c i).1 4
noncomputable def inoV (b c : Int) (L : List Int) (n : Nat) (i : Int) : Fi.Ino9 := dec18 (slot18 (ldP L n (inoP b c i).1 4) (18 * (inoP b c i).2.1.toNat))
noncomputable def inoG (a b c : Int) (L : List Int) (n : Nat) (i : Int) : Fi.Ino9 := if inoOk a b c L n i then inoV b c L n i else .zero
noncomputable def g36 : List RV → Int → Int → Int → List Int → Nat → Int → Option (RV × List Prop) := fun xs a b c L n _ => match xs with
  | [.one (.c (.int .i64 i))] => some (.tup [.agg (inoG a b c L n i).L, .c (.bool (inoOk a b c L n i))], [])
  | _ => none
theorem ldP_len {L : List Int} {n : Nat} {s k : Int} (hl : L.length = 64 * n) : (ldP L n s k).length = 54 := by
  unfold ldP
  cases hs : hasS n s with
  | false => rfl
  | true =>
    rw [if_pos rfl]
    obtain ⟨h1, h2⟩ := hasS_iff.1 hs
    exact getP_len (blkAt_len (by omega))
theorem inoSlot (b c i : Int) : 0 ≤ (inoP b c i).2.1 ∧ (inoP b c i).2.1 ≤ 2 := by unfold inoP; constructor <;> (simp only; omega)
theorem sum36 : SumAOK Tryz.prog 21 (sumRd g36) := by
  refine sumRd_ok ⟨_, Tryz.func21, rfl⟩ (fun xs a b c L n sc v ps h => ?_) fun xs a b c L n sc v ps h hps hl t0 op t1 out => ?_
  · unfold g36 at h
    split at h <;> try (cases h; done)
    simp only [Option.some.injEq, Prod.mk.injEq] at h
    obtain ⟨rfl, rfl⟩ := h
    exact ⟨rfl, rfl⟩
  · unfold g36 at h
    split at h <;> try (cases h; done)
    rename_i i
    simp only [Option.some.injEq, Prod.mk.injEq] at h
    obtain ⟨rfl, rfl⟩ := h
    refine small_tree fitJ3 top_two (.of_eq (r36_run t0 op t1 a b c L (64 * n) n sc out i _) ?_)
    unfold inoG inoOk
    cases hB : inoB a b c i with
    | false => exact .yes (by simp) ⟨trivial, rfl⟩
    | true =>
      refine .no (by simp) ?_
      show Okp (bif !ldOk L n (inoP b c i).1 4 then _ else _)
      cases hL : ldOk L n (inoP b c i).1 4 with
      | false => exact .yes rfl ⟨⟨hl, rfl, trivial⟩, rfl⟩
      | true =>
        refine .no rfl ⟨⟨inoSlot b c i, hl, rfl, trivial⟩, ?_⟩
        have hp : (ldP L n (inoP b c i).1 4).length = 54 := ldP_len hl
        show RV.tup [.agg (dec18 (slot18 (t54 (over z54 0 (t54 (over z54 0 (t54 (over z54 0 (ldP L n (inoP b c i).1 4))))))) (18 * (inoP b c i).2.1.toNat))).L, .c (.bool true)] = _
        rw [over_z54 hp, show t54 (ldP L n (inoP b c i).1 4) = _ from take_all hp, over_z54 hp, show t54 (ldP L n (inoP b c i).1 4) = _ from take_all hp, over_z54 hp, show t54 (ldP L n (inoP b c i).1 4) = _ from take_all hp]
        rfl
/-! ### .. and written: f63 -/
noncomputable def sgJ4 : FuncId → Option SumA := fun f => match f with | 93 => some (pureSum fIno) | 47 => some sumLd | 89 => some (pureSum fWi) | 78 => some sumWr | _ => none
theorem fitJ4 : Fit Tryz.prog (fun f => (sgJ4 f).map toSum) := ⟨fit_ng, fit_mixed, SumAOK.sum fun f sm h => by
  unfold sgJ4 at h
  split at h
  · cases h; exact fIno62.sum ⟨_, Tryz.func93, rfl⟩
  · cases h; exact sumLd_ok
  · cases h; exact fWi_ok.sum ⟨_, Tryz.func89, rfl⟩
  · cases h; exact sumWr_ok
  · cases h⟩
noncomputable def c63 : Code := gB 23
noncomputable def args63 (i k l s d0 d1 d2 d3 sg db : Int) : List RV := [.one (.c (.ptr 0 0)), .one (.c (.int .i64 i)), .one (.agg [.int .u8 k, .int .u8 l, .int .u32 s, .int .u16 d0, .int .u16 d1, .int .u16 d2, .int .u16 d3, .int .u16 sg, .int .u16 db])]
noncomputable def sl63 (i k l s d0 d1 d2 d3 sg db : Int) : T RV := match setArgs 32 (args63 i k l s d0 d1 d2 d3 sg db) 0 .nil some with | some t => t | none => .nil
theorem sl63_ok (i k l s d0 d1 d2 d3 sg db : Int) : setArgs 32 (args63 i k l s d0 d1 d2 d3 sg db) 0 .nil some = some (sl63 i k l s d0 d1 d2 d3 sg db) := by kernel_rfl
noncomputable def r63 (a b c : Int) (L : List Int) (n : Nat) (sc out : Int) (lm : List (Int × Int)) (i k l s d0 d1 d2 d3 sg db : Int) (Q : X → Option (List AV) → T Blk → Nat → Prop) : Option Prop :=
  execA Tryz.prog sgJ4 300 32 c63 ⟨sl63 i k l s d0 d1 d2 d3 sg db, imgW a b c L n sc out lm, 3, []⟩ αT (fun x s α => some (All α.ob ∧ (Nat.ble 3 s.nx = true ∧ Q x (resOf Tryz.prog 32 (low 32 3 (fgt [6] 32 s)) Tryz.f23.results.toList) (low 32 3 (fgt [6] 32 s)).hp (low 32 3 (fgt [6] 32 s)).nx)))
end Go.Sx

namespace Go.Sx
open Go.Proofs Go.RowKit
set_option maxRecDepth 100000
noncomputable abbrev r63_x0 (n : Nat) : Nat := 64 * n
noncomputable abbrev r63_x1 (a b : Int) (c i : Int) : Int := sel (inoB a b c i) (inoP b c i).fst
noncomputable abbrev r63_x2 (a b c : Int) (L : List Int) (n : Nat) (i : Int) : List Int := over z54 0 (List.take 54 (List.drop 0 (over z54 0 (List.take 54 (List.drop 0 (over z54 0 (ldP L n (r63_x1 a b c i) 4)))))))
noncomputable abbrev r63_x3 (a b : Int) (c i : Int) : Int := sel (inoB a b c i) (inoP b c i).snd.fst
noncomputable abbrev r63_x4 (a b c : Int) (L : List Int) (n : Nat) (i k : Int) (l s : Int) (d0 d1 : Int) (d2 d3 : Int) (sg db : Int) : List Int := List.take 54 (List.drop 0 (over (r63_x2 a b c L n i) 0 (over (List.take 54 (List.drop 0 (r63_x2 a b c L n i))) (18 * (r63_x3 a b c i).toNat) (enc18 { k := k, l := l, s := s, d0 := d0, d1 := d1, d2 := d2, d3 := d3, sg := sg, db := db }))))
noncomputable def r63_t (a b c : Int) (L : List Int) (n : Nat) (sc out : Int) (lm : List (Int × Int)) (i k : Int) (l s : Int) (d0 d1 : Int) (d2 d3 : Int) (sg db : Int) (Q : X → Option (List AV) → T Blk → Nat → Prop) : Option Prop := (bif (if inoB a b c i = true then (0 : Int) else 2) != 0 then ( some ((All [] ∧ ((true = true) ∧ Q (X.ret) (some [AV.c (Cell.bool false)]) (ofL [(0, Blk.row 113 false none (Body.cells [Cell.int IntKind.i64 a, Cell.int IntKind.i64 b, Cell.int IntKind.i64 c, Cell.slu 1 64 0 n, Cell.int IntKind.u32 sc, Cell.map 2, Cell.int IntKind.i64 out])), (1, Blk.row 95 false (some 64) (Body.ints IntKind.u8 L (r63_x0 n))), (2, Blk.mapI none lm)]) (3)))) ) else ( (bif !ldOk L n (r63_x1 a b c i) 4 then ( some ((All [L.length = (r63_x0 n), (r63_x0 n) = (r63_x0 n)] ∧ ((true = true) ∧ Q (X.ret) (some [AV.c (Cell.bool false)]) (ofL [(0, Blk.row 113 false none (Body.cells [Cell.int IntKind.i64 a, Cell.int IntKind.i64 b, Cell.int IntKind.i64 c, Cell.slu 1 64 0 n, Cell.int IntKind.u32 sc, Cell.map 2, Cell.int IntKind.i64 out])), (1, Blk.row 95 false (some 64) (Body.ints IntKind.u8 L (r63_x0 n))), (2, Blk.mapI none lm)]) (3)))) ) else ( some ((All [L.length = (r63_x0 n), (r63_x0 n) = (r63_x0 n), (r63_x4 a b c L n i k l s d0 d1 d2 d3 sg db).length = 54, 0 ≤ (r63_x3 a b c i) ∧ (r63_x3 a b c i) ≤ 2, L.length = (r63_x0 n), (r63_x0 n) = (r63_x0 n)] ∧ ((true = true) ∧ Q (X.ret) (some [AV.c (Cell.bool (wrEnd a b c n sc out L lm (r63_x1 a b c i) 4 (r63_x4 a b c L n i k l s d0 d1 d2 d3 sg db)).fst)]) (ofL [(0, Blk.row 113 false none (Body.cells [Cell.int IntKind.i64 a, Cell.int IntKind.i64 b, Cell.int IntKind.i64 c, Cell.slu 1 64 0 n, Cell.int IntKind.u32 sc, Cell.map 2, Cell.int IntKind.i64 (wrEnd a b c n sc out L lm (r63_x1 a b c i) 4 (r63_x4 a b c L n i k l s d0 d1 d2 d3 sg db)).snd.snd.snd])), (1, Blk.row 95 false (some 64) (Body.ints IntKind.u8 (wrEnd a b c n sc out L lm (r63_x1 a b c i) 4 (r63_x4 a b c L n i k l s d0 d1 d2 d3 sg db)).snd.fst (r63_x0 n))), (2, Blk.mapI none (wrEnd a b c n sc out L lm (r63_x1 a b c i) 4 (r63_x4 a b c L n i k l s d0 d1 d2 d3 sg db)).snd.snd.fst)]) (3)))) )) ))
theorem r63_tree (a b c : Int) (L : List Int) (n : Nat) (sc out : Int) (lm : List (Int × Int)) (i k : Int) (l s : Int) (d0 d1 : Int) (d2 d3 : Int) (sg db : Int) (Q : X → Option (List AV) → T Blk → Nat → Prop) : r63 a b c L n sc out lm i k l s d0 d1 d2 d3 sg db Q = r63_t a b c L n sc out lm i k l s d0 d1 d2 d3 sg db Q := by kernel_rfl

/-- the load with an inode in it -/
noncomputable def ldW (a b c : Int) (L : List Int) (n : Nat) (i : Int) (y : Fi.Ino9) : List Int := over (ldP L n (inoP b c i).1 4) (18 * (inoP b c i).2.1.toNat) (enc18 y)
noncomputable def wr63 (a b c : Int) (n : Nat) (sc : Int) (st : St) (i : Int) (y : Fi.Ino9) : Bool × St :=
  if inoOk a b c st.1 n i then ((wrEnd a b c n sc st.2.2 st.1 st.2.1 (inoP b c i).1 4 (ldW a b c st.1 n i y)).1, wr1 a b c n sc st (inoP b c i).1 4 (ldW a b c st.1 n i y)) else (false, st)
theorem ldW_len {a b c : Int} {L : List Int} {n : Nat} {i : Int} {y : Fi.Ino9} (hl : L.length = 64 * n) : (ldW a b c L n i y).length = 54 := by
  have h := inoSlot b c i
  exact over_len18 (ldP_len hl) (enc_len y) (by omega)
theorem body63_eq : Tryz.f23.body = some c63 := by kernel_rfl
theorem small63 {a b c : Int} {n : Nat} {sc : Int} {st : St} {i : Int} {y : Fi.Ino9} (hl : st.1.length = 64 * n) : SmallC Tryz.prog 23 (args63 i y.k y.l y.s y.d0 y.d1 y.d2 y.d3 y.sg y.db) 3 (imgT a b c n sc st) (imgT a b c n sc (wr63 a b c n sc st i y).2) (.one (.c (.bool (wr63 a b c n sc st i y).1))) := by
  refine smallC_tree (fn := Tryz.f23) (keep := [6]) fitJ4 Tryz.func23 body63_eq rfl (by rw [imgT, imgW_eq]; exact top_three) (sl63_ok ..) (.of_eq (r63_tree a b c st.1 n sc st.2.2 st.2.1 i y.k y.l y.s y.d0 y.d1 y.d2 y.d3 y.sg y.db _) ?_)
  unfold r63_t
  have same : EndS (.one (.c (.bool false))) (imgT a b c n sc st) 3 .ret (some [AV.c (Cell.bool false)]) (imgT a b c n sc st) 3 := ⟨.inr rfl, ⟨_, rfl, rfl⟩, rfl, rfl⟩
  unfold wr63 inoOk
  cases hB : inoB a b c i with
  | false => exact .yes (by simp) ⟨trivial, rfl, same⟩
  | true =>
    refine .no (by simp) ?_
    have x1 : r63_x1 a b c i = (inoP b c i).1 := by show sel (inoB a b c i) _ = _; rw [hB]; rfl
    rw [x1]
    cases hL : ldOk st.1 n (inoP b c i).1 4 with
    | false => exact .yes rfl ⟨⟨hl, rfl, trivial⟩, rfl, same⟩
    | true =>
      have hp : (ldP st.1 n (inoP b c i).1 4).length = 54 := ldP_len hl
      have x2 : r63_x2 a b c st.1 n i = ldP st.1 n (inoP b c i).1 4 := by
        show over z54 0 (t54 (over z54 0 (t54 (over z54 0 (ldP st.1 n (r63_x1 a b c i) 4))))) = _
        rw [x1, over_z54 hp, show t54 (ldP st.1 n (inoP b c i).1 4) = _ from take_all hp, over_z54 hp, show t54 (ldP st.1 n (inoP b c i).1 4) = _ from take_all hp, over_z54 hp]
      have x3 : r63_x3 a b c i = (inoP b c i).2.1 := by show sel (inoB a b c i) _ = _; rw [hB]; rfl
      have hw : (ldW a b c st.1 n i y).length = 54 := ldW_len hl
      have x4 : r63_x4 a b c st.1 n i y.k y.l y.s y.d0 y.d1 y.d2 y.d3 y.sg y.db = ldW a b c st.1 n i y := by
        show t54 (over (r63_x2 a b c st.1 n i) 0 (over (t54 (r63_x2 a b c st.1 n i)) (18 * (r63_x3 a b c i).toNat) (enc18 y))) = _
        rw [x2, x3, show t54 (ldP st.1 n (inoP b c i).1 4) = _ from take_all hp]
        show t54 (over (ldP st.1 n (inoP b c i).1 4) 0 (ldW a b c st.1 n i y)) = _
        rw [over_zero, hw, show (ldP st.1 n (inoP b c i).1 4).drop 54 = [] from by rw [List.drop_of_length_le (by omega)], List.append_nil]
        exact take_all hw
      refine .no rfl ?_
      rw [x3, x4]
      exact ⟨⟨hl, rfl, hw, inoSlot b c i, hl, rfl, trivial⟩, rfl, .inr rfl, ⟨_, rfl, rfl⟩, rfl, rfl⟩
noncomputable def g63 : List RV → Int → Int → Int → Nat → Int → St → Option (RV × St × List Prop) := fun xs a b c n sc st => match xs with
  | [.one (.c (.int .i64 i)), .one (.agg [.int .u8 k, .int .u8 l, .int .u32 s, .int .u16 d0, .int .u16 d1, .int .u16 d2, .int .u16 d3, .int .u16 sg, .int .u16 db])] =>
    some (.one (.c (.bool (wr63 a b c n sc st i ⟨k, l, s, d0, d1, d2, d3, sg, db⟩).1)), (wr63 a b c n sc st i ⟨k, l, s, d0, d1, d2, d3, sg, db⟩).2, [])
  | _ => none
theorem sum63 : SumAOK Tryz.prog 23 (sumImg g63) := by
  refine sumImg_ok ⟨_, Tryz.func23, rfl⟩ (fun xs a b c n sc st v st' ps h hps hl => ?_) fun xs a b c n sc st v st' ps h => ?_
  · unfold g63 at h
    split at h <;> try (cases h; done)
    rename_i i k l s d0 d1 d2 d3 sg db
    simp only [Option.some.injEq, Prod.mk.injEq] at h
    obtain ⟨rfl, rfl, rfl⟩ := h
    exact small63 (y := ⟨k, l, s, d0, d1, d2, d3, sg, db⟩) hl
  · unfold g63 at h
    split at h <;> try (cases h; done)
    simp only [Option.some.injEq, Prod.mk.injEq] at h
    obtain ⟨rfl, rfl, rfl⟩ := h
    exact ⟨rfl, rfl⟩
/-! ### the second phase: f33 -/
noncomputable def sgJ5 : FuncId → Option SumA := fun f => match f with | 93 => some (pureSum fIno) | 92 => some (pureSum fInN) | 21 => some (sumRd g36) | 44 => some sumIn | 75 => some (pureSum Fi.fSh) | 23 => some (sumImg g63) | _ => none
theorem fitJ5 : Fit Tryz.prog (fun f => (sgJ5 f).map toSum) := ⟨fit_ng, fit_mixed, SumAOK.sum fun f sm h => by
  unfold sgJ5 at h
  split at h
  · cases h; exact fIno62.sum ⟨_, Tryz.func93, rfl⟩
  · cases h; exact fInN61.sum ⟨_, Tryz.func92, rfl⟩
  · cases h; exact sum36
  · cases h; exact sumIn_ok
  · cases h; exact Fi.fSh9_ok.sum ⟨_, Tryz.func75, rfl⟩
  · cases h; exact sum63
  · cases h⟩
noncomputable def c33 : Code := gB 26
noncomputable def args33 : List RV := [.one (.c (.ptr 0 0))]
noncomputable def sl33 : T RV := match setArgs 45 args33 0 .nil some with | some t => t | none => .nil
theorem sl33_ok : setArgs 45 args33 0 .nil some = some sl33 := by kernel_rfl
noncomputable def lp33 : Code := match gR (gR c33) with | .block _ (.loop c) => c | _ => .skip
section
variable (a b c : Int) (L : List Int) (n : Nat) (sc out i N : Int) (lm : List (Int × Int))
noncomputable def hp33 : T Blk := ofL [(0, .row 113 false none (.cells (imgC a b c n sc out))), (1, .row 95 false (some 64) (.ints .u8 L (64 * n))), (2, .mapI none lm), (3, .row 62 false none (.cells [.int .i64 a, .int .i64 b, .int .i64 c])), (4, .row 62 false none (.cells [.int .i64 a, .int .i64 b, .int .i64 c]))]
noncomputable def s33 : S := low 45 5 (fgt [0, 2, 12, 13] 45 ⟨ofL [(0, .one (.c (.ptr 0 0))), (2, .one (.c (.ptr 4 0))), (12, .one (.c (.int .i64 N))), (13, .one (.c (.int .i64 i)))], hp33 a b c L n sc out lm, 5, []⟩)
noncomputable def ini33 (M : S → Prop) (R : X → Option (List AV) → Prop) : Option Prop := execN Tryz.prog sgJ5 300 45 2 c33 ⟨sl33, imgW a b c L n sc out lm, 3, []⟩ αT (fun x s α => some (All α.ob ∧ match x with | .normal => M (fgt [0, 2, 12, 13] 45 s) | x => R x (resOf Tryz.prog 45 s Tryz.f26.results.toList)))
noncomputable def rnd33 (Q : X → S → Prop) : Option Prop := execA Tryz.prog sgJ5 300 45 lp33 (s33 a b c L n sc out i N lm) αT (fun x s α => some (All α.ob ∧ (Nat.ble 5 s.nx = true ∧ Q x (low 45 5 (fgt [0, 2, 12, 13] 45 s)))))
end
end Go.Sx

namespace Go.Sx
open Go.Proofs Go.RowKit
set_option maxRecDepth 100000
section
variable (a b c : Int) (n : Nat) (sc : Int)
/-- one inode of the second phase -/
noncomputable def fld1 (st : St) (i : Int) : St := if inoOk a b c st.1 n i = true ∧ inS a sc (inoP b c i).2.2.1 = true then (wr63 a b c n sc st i (Fi.sh a b c i (inoV b c st.1 n i))).2 else st
noncomputable def flds : Nat → St → Int → St
  | 0, st, _ => st
  | m + 1, st, i => flds m (fld1 a b c n sc st i) (i + 1)
noncomputable def fldR (st : St) : St := flds a b c n sc (inoN a b c).toNat st 1
end
noncomputable def rnd33_t (a b c : Int) (L : List Int) (n : Nat) (sc out i N : Int) (lm : List (Int × Int)) (Q : X → S → Prop) : Option Prop := bif decide (i < N) then bif inoOk a b c L n (IntKind.i64.wrap (i + 1)) then bif inS a sc (sel (inoB a b c (IntKind.i64.wrap (i + 1))) (inoP b c (IntKind.i64.wrap (i + 1))).2.2.1) then some (All [L.length = 64 * n, 64 * n = 64 * n, (inoG a b c L n (IntKind.i64.wrap (i + 1))).Ok, L.length = 64 * n, 64 * n = 64 * n] ∧ (true = true ∧ Q .normal (s33 a b c (wr63 a b c n sc (L, lm, out) (IntKind.i64.wrap (i + 1)) (Fi.sh a b c (IntKind.i64.wrap (i + 1)) (inoG a b c L n (IntKind.i64.wrap (i + 1))))).2.1 n sc (wr63 a b c n sc (L, lm, out) (IntKind.i64.wrap (i + 1)) (Fi.sh a b c (IntKind.i64.wrap (i + 1)) (inoG a b c L n (IntKind.i64.wrap (i + 1))))).2.2.2 (IntKind.i64.wrap (i + 1)) N (wr63 a b c n sc (L, lm, out) (IntKind.i64.wrap (i + 1)) (Fi.sh a b c (IntKind.i64.wrap (i + 1)) (inoG a b c L n (IntKind.i64.wrap (i + 1))))).2.2.1))) else some (All [L.length = 64 * n, 64 * n = 64 * n] ∧ (true = true ∧ Q .normal (s33 a b c L n sc out (IntKind.i64.wrap (i + 1)) N lm))) else some (All [L.length = 64 * n, 64 * n = 64 * n] ∧ (true = true ∧ Q .normal (s33 a b c L n sc out (IntKind.i64.wrap (i + 1)) N lm))) else some (All [] ∧ (true = true ∧ Q (.exit 0) (s33 a b c L n sc out i N lm)))
theorem rnd33_tree (a b c : Int) (L : List Int) (n : Nat) (sc out i N : Int) (lm : List (Int × Int)) (Q : X → S → Prop) : rnd33 a b c L n sc out i N lm Q = rnd33_t a b c L n sc out i N lm Q := by kernel_rfl
noncomputable def s33a (a b c : Int) (L : List Int) (n : Nat) (sc out i N : Int) (lm : List (Int × Int)) : S := fgt [0, 2, 12, 13] 45 ⟨ofL [(0, .one (.c (.ptr 0 0))), (2, .one (.c (.ptr 4 0))), (12, .one (.c (.int .i64 N))), (13, .one (.c (.int .i64 i)))], hp33 a b c L n sc out lm, 5, []⟩
theorem ini33_tree (a b c : Int) (L : List Int) (n : Nat) (sc out : Int) (lm : List (Int × Int)) (M : S → Prop) (R : X → Option (List AV) → Prop) : ini33 a b c L n sc out lm M R = some (All [] ∧ M (s33a a b c L n sc out 0 (inoN a b c) lm)) := by kernel_rfl
theorem s33_nx (a b c : Int) (L : List Int) (n : Nat) (sc out i N : Int) (lm : List (Int × Int)) : (s33 a b c L n sc out i N lm).nx = 5 := by kernel_rfl
noncomputable def e33 (a b c : Int) (L : List Int) (n : Nat) (sc out i N : Int) (lm : List (Int × Int)) : S := low 45 3 (fgt [] 45 (s33 a b c L n sc out i N lm))
theorem e33_hp (a b c : Int) (L : List Int) (n : Nat) (sc out i N : Int) (lm : List (Int × Int)) : (e33 a b c L n sc out i N lm).hp = imgW a b c L n sc out lm := by kernel_rfl
/-- bytes, all of them -/
def ByA (L : List Int) (n : Nat) : Prop := ∀ s : Int, 0 ≤ s → s < n → Bytes (bk L s)
/-! what a write leaves, sector by sector -/
section
variable {a b c sc : Int} {m : Nat} {st : St}
theorem wr1_bk (hl : st.1.length = 64 * m) {g k : Int} {p : List Int} (h0 : 0 ≤ g) (hm : g < m) (hk : mayK k = true) (hp : p.length = 54) (hin : g < 2 ∨ inS a sc (pl a b c g).2.1 = true) :
    (∀ s : Int, 0 ≤ s → s < m → bk (wr1 a b c m sc st g k p).1 s = if s = g then wrB k p (bk st.1 g) else bk st.1 s) ∧ (wr1 a b c m sc st g k p).2.2 = st.2.2 ∧ (isB k (bk st.1 g) = true ∧ t54 (bk st.1 g) = p → wr1 a b c m sc st g k p = st) := by
  have hs : hasS m g = true := hasS_iff.2 ⟨h0, hm⟩
  have hok : ldOk st.1 m g k = isB k (bk st.1 g) := by
    unfold ldOk; rw [hs, Bool.true_and]
    show (getE k (bk st.1 g) == 0) = _
    rw [getE_is hk]
  have hld : isB k (bk st.1 g) = true → ldP st.1 m g k = t54 (bk st.1 g) := fun hi => by
    unfold ldP; rw [hs, if_pos rfl]
    show getP k (bk st.1 g) = _
    unfold getP; rw [if_pos hi]
  by_cases hc : isB k (bk st.1 g) = true ∧ t54 (bk st.1 g) = p
  · have e : wr1 a b c m sc st g k p = st := by
      show (wrEnd a b c m sc st.2.2 st.1 st.2.1 g k p).2 = st
      unfold wrEnd
      rw [hs, if_pos rfl, hok, hc.1, hld hc.1, hc.2]
      simp
    rw [e]
    refine ⟨fun s _ _ => ?_, rfl, fun _ => rfl⟩
    split
    · rename_i hs; subst hs; unfold wrB; rw [if_pos (by simp [hc.1, hc.2])]
    · rfl
  · have hcb : (ldOk st.1 m g k && (ldP st.1 m g k == p)) = false := by
      rw [hok]
      cases hi : isB k (bk st.1 g) with
      | false => rfl
      | true =>
        rw [hld hi, Bool.true_and]
        simp
        exact fun e => hc ⟨hi, e⟩
    have hio : (decide (g ≥ 2) && !inS a sc (pl a b c g).2.1) = false := by
      rcases hin with hin | hin
      · have : decide (g ≥ 2) = false := by simp; omega
        rw [this]; rfl
      · rw [hin]; simp
    have e : wr1 a b c m sc st g k p = (over st.1 (g.toNat * 64) (nextB k (bk st.1 g) p), putI st.2.1 g 1, st.2.2) := by
      show (wrEnd a b c m sc st.2.2 st.1 st.2.1 g k p).2 = _
      unfold wrEnd
      rw [hs, if_pos rfl, hcb, putE_may.2 hk, hio]
      rfl
    rw [e]
    refine ⟨fun s s0 s1 => ?_, rfl, fun h => absurd h hc⟩
    show blkAt (over st.1 (g.toNat * 64) (nextB k (bk st.1 g) p)) (s.toNat * 64) = _
    by_cases hy : s = g
    · subst hy
      rw [over_at_same (nextB_len hp) (by omega), if_pos rfl]
      unfold wrB; rw [if_neg (by simpa using hc)]
    · rw [over_at_other (nextB_len hp) (by omega) (by omega), if_neg hy]
theorem ino_pl {i : Int} (hB : inoB a b c i = true) : (pl a b c (inoP b c i).1).1 = 4 ∧ (pl a b c (inoP b c i).1).2.1 = (inoP b c i).2.2.1 ∧ 2 ≤ (inoP b c i).1 ∧ (inoP b c i).1 < 2 + a * (2 + b + c) ∧ 0 ≤ (inoP b c i).2.2.1 ∧ (inoP b c i).2.2.1 < a := by
  unfold inoB at hB
  simp only [Bool.and_eq_true, decide_eq_true_eq] at hB
  obtain ⟨hg, h0, h1⟩ := hB
  obtain ⟨g1, g2, g3, g4, g5, g6⟩ := geoB_iff.1 hg
  obtain ⟨f1, f2, f3, f4, f5, f6, f7, f8⟩ := inoF hg h0 h1
  have e : (inoP b c i).1 = 2 + (i - 1) / (3 * b) * (2 + b + c) + (2 + (i - 1) % (3 * b) / 3) := by unfold inoP; simp only; omega
  have hp := pl_at hg f1 f2 (j := 2 + (i - 1) % (3 * b) / 3) (by omega) (by omega)
  rw [if_neg (by omega), if_neg (by omega), if_pos (by omega)] at hp
  rw [e, hp]
  refine ⟨rfl, rfl, by omega, by omega, f1, f2⟩
end
theorem e33_nx (a b c : Int) (L : List Int) (n : Nat) (sc out i N : Int) (lm : List (Int × Int)) : (e33 a b c L n sc out i N lm).nx = 3 := by kernel_rfl
theorem f33_nx (a b c : Int) (L : List Int) (n : Nat) (sc out i N : Int) (lm : List (Int × Int)) : (fgt [] 45 (s33 a b c L n sc out i N lm)).nx = 5 := by kernel_rfl
theorem e33_res (a b c : Int) (L : List Int) (n : Nat) (sc out i N : Int) (lm : List (Int × Int)) : resOf Tryz.prog 45 (e33 a b c L n sc out i N lm) Tryz.f26.results.toList = some [] := by kernel_rfl
section
variable {a b c sc : Int} {m : Nat} {st : St}
/-- what an inode is, out of its sector -/
theorem inoV_bk {L : List Int} {i : Int} (hok : inoOk a b c L m i = true) : inoB a b c i = true ∧ hasS m (inoP b c i).1 = true ∧ isB 4 (bk L (inoP b c i).1) = true ∧ ldP L m (inoP b c i).1 4 = t54 (bk L (inoP b c i).1) := by
  unfold inoOk at hok
  simp only [Bool.and_eq_true] at hok
  obtain ⟨h1, h2⟩ := hok
  have h2' := h2
  unfold ldOk at h2
  simp only [Bool.and_eq_true] at h2
  obtain ⟨h3, h4⟩ := h2
  have h5 : isB 4 (bk L (inoP b c i).1) = true := by rw [← getE_is rfl]; exact h4
  refine ⟨h1, h3, h5, ?_⟩
  unfold ldP
  rw [if_pos h3]
  show getP 4 (bk L (inoP b c i).1) = _
  unfold getP; rw [if_pos h5]
theorem slot_bytes {L : List Int} {i : Int} (hl : L.length = 64 * m) (hok : inoOk a b c L m i = true) (hy : Bytes (bk L (inoP b c i).1)) : Bytes (slot18 (ldP L m (inoP b c i).1 4) (18 * (inoP b c i).2.1.toNat)) ∧ (slot18 (ldP L m (inoP b c i).1 4) (18 * (inoP b c i).2.1.toNat)).length = 18 := by
  have hp : (ldP L m (inoP b c i).1 4).length = 54 := ldP_len hl
  have hs := inoSlot b c i
  refine ⟨fun x hx => ?_, by simp only [slot18, List.length_take, List.length_drop]; omega⟩
  rw [(inoV_bk hok).2.2.2] at hx
  exact hy x (List.mem_of_mem_drop (List.mem_of_mem_take (List.mem_of_mem_drop (List.mem_of_mem_take hx))))
theorem inoV_in {L : List Int} {i : Int} (hl : L.length = 64 * m) (hok : inoOk a b c L m i = true) (hy : Bytes (bk L (inoP b c i).1)) : In9 (inoV b c L m i) := dec_in (slot_bytes hl hok hy).1
theorem sh_in {i : Int} {y : Fi.Ino9} (h : In9 y) : In9 (Fi.sh a b c i y) := by
  have z : In9 Fi.Ino9.zero := ⟨⟨by decide, by decide⟩, ⟨by decide, by decide⟩, ⟨by decide, by decide⟩, Fi.u0, Fi.u0, Fi.u0, Fi.u0, Fi.u0, Fi.u0⟩
  have h1 : In9 (if y.chk then y else Fi.Ino9.zero) := by split <;> assumption
  exact Fi.finI_ind (Q := In9) (fun _ => ⟨⟨by decide, by decide⟩, ⟨by decide, by decide⟩, ⟨by decide, by decide⟩, Fi.u0, Fi.u0, Fi.u0, Fi.u0, Fi.u0, Fi.u0⟩)
    (fun _ => ⟨h1.k, h1.l, h1.s, Fi.kp_u16 h1.d0, Fi.kp_u16 h1.d1, Fi.kp_u16 h1.d2, Fi.kp_u16 h1.d3, Fi.kp_u16 h1.sg, Fi.kp_u16 h1.db⟩)
theorem bytes_over {p e : List Int} {o : Nat} (hp : Bytes p) (he : Bytes e) : Bytes (over p o e) :=
  bytes_app (bytes_app (fun x hx => hp x (List.mem_of_mem_take hx)) he) (fun x hx => hp x (List.mem_of_mem_drop hx))
/-- what one step of the second phase leaves -/
theorem fld1_bk (hl : st.1.length = 64 * m) (hm : (m : Int) = 2 + a * (2 + b + c)) (hy : ByA st.1 m) (i : Int) : (fld1 a b c m sc st i).1.length = 64 * m ∧ ByA (fld1 a b c m sc st i).1 m ∧ (fld1 a b c m sc st i).2.2 = st.2.2 ∧
    (∀ s : Int, 0 ≤ s → s < m → bk (fld1 a b c m sc st i).1 s = if inoOk a b c st.1 m i = true ∧ inS a sc (inoP b c i).2.2.1 = true ∧ s = (inoP b c i).1 then wrB 4 (ldW a b c st.1 m i (Fi.sh a b c i (inoV b c st.1 m i))) (bk st.1 s) else bk st.1 s) ∧
    (inoOk a b c st.1 m i = true → inS a sc (inoP b c i).2.2.1 = true → Fi.sh a b c i (inoV b c st.1 m i) = inoV b c st.1 m i → fld1 a b c m sc st i = st) := by
  unfold fld1
  by_cases hc : inoOk a b c st.1 m i = true ∧ inS a sc (inoP b c i).2.2.1 = true
  · rw [if_pos hc]
    obtain ⟨hok, hin⟩ := hc
    obtain ⟨hB, hs, hi, hld⟩ := inoV_bk hok
    obtain ⟨p1, p2, p3, p4, _, _⟩ := ino_pl hB
    obtain ⟨s0, s1⟩ := hasS_iff.1 hs
    have hY := hy _ s0 s1
    obtain ⟨sb, sl⟩ := slot_bytes hl hok hY
    have hV := inoV_in hl hok hY
    have hw : (ldW a b c st.1 m i (Fi.sh a b c i (inoV b c st.1 m i))).length = 54 := ldW_len hl
    have e : (wr63 a b c m sc st i (Fi.sh a b c i (inoV b c st.1 m i))).2 = wr1 a b c m sc st (inoP b c i).1 4 (ldW a b c st.1 m i (Fi.sh a b c i (inoV b c st.1 m i))) := by unfold wr63; rw [if_pos hok]
    rw [e]
    obtain ⟨w1, w2, w3⟩ := wr1_bk (sc := sc) hl (g := (inoP b c i).1) (k := 4) s0 s1 rfl hw (.inr (by rw [p2]; exact hin))
    have hbw : Bytes (ldW a b c st.1 m i (Fi.sh a b c i (inoV b c st.1 m i))) := by
      unfold ldW
      rw [hld]
      refine bytes_over (fun x hx => hY x (List.mem_of_mem_drop (List.mem_of_mem_take hx))) (bytes_enc (sh_in hV).k (sh_in hV).l)
    refine ⟨wr1_len hl hw, fun s h0 h1 => ?_, w2, fun s h0 h1 => ?_, fun _ _ hsh => w3 ⟨hi, ?_⟩⟩
    · rw [w1 s h0 h1]
      split
      · exact bytes_wr rfl hbw hY
      · exact hy s h0 h1
    · rw [w1 s h0 h1]
      by_cases hs : s = (inoP b c i).1
      · rw [if_pos hs, if_pos ⟨hok, hin, hs⟩, hs]
      · rw [if_neg hs, if_neg (fun h => hs h.2.2)]
    · rw [hsh]
      unfold ldW inoV
      rw [enc_dec sl sb, hld]
      have hp : (t54 (bk st.1 (inoP b c i).1)).length = 54 := by rw [← hld]; exact ldP_len hl
      have hs := inoSlot b c i
      exact (over_same (by omega)).symm
  · rw [if_neg hc]
    exact ⟨hl, hy, rfl, fun s _ _ => by rw [if_neg (fun h => hc ⟨h.1, h.2.1⟩)], fun h1 h2 => absurd ⟨h1, h2⟩ hc⟩
end
end Go.Sx

namespace Go.Sx
open Go.Proofs Go.RowKit
set_option maxRecDepth 100000
section
variable {a b c sc : Int} {m : Nat}
theorem s33a_eq (a b c : Int) (L : List Int) (n : Nat) (sc out i N : Int) (lm : List (Int × Int)) : s33a a b c L n sc out i N lm = s33 a b c L n sc out i N lm := by kernel_rfl
noncomputable abbrev at33 (a b c : Int) (m : Nat) (sc : Int) (N i : Int) (st : St) : S := s33 a b c st.1 m sc st.2.2 i N st.2.1
theorem loop33 (hm : (m : Int) = 2 + a * (2 + b + c)) (hN : inoN a b c ≤ 192) : ∀ (k : Nat) (i : Int) (st : St), st.1.length = 64 * m → ByA st.1 m → 0 ≤ i → i + k = inoN a b c →
    Tr Tryz.prog 45 (.loop lp33) (at33 a b c m sc (inoN a b c) i st) (fun x s' => x = .exit 0 ∧ s' = at33 a b c m sc (inoN a b c) (inoN a b c) (flds a b c m sc k st (i + 1)))
  | 0, i, st, hl, hy, h0, hk => by
    have : i = inoN a b c := by simpa using hk
    refine Tr.loop (Tr.treeL fitJ5 (m := 5) (by rw [s33_nx]; exact Nat.le_refl _) (.of_eq (rnd33_tree a b c st.1 m sc st.2.2 i (inoN a b c) st.2.1 _) (.no (by simp; omega) ⟨trivial, rfl, ?_⟩)))
    refine ⟨rfl, ?_⟩
    rw [flds, ← this]
  | k + 1, i, st, hl, hy, h0, hk => by
    push_cast at hk
    have hi1 : IntKind.i64.wrap (i + 1) = i + 1 := IntWalk.i64_in _ (by omega)
    obtain ⟨l1, y1, _⟩ := fld1_bk (sc := sc) hl hm hy (i + 1)
    have ih := loop33 hm hN k (i + 1) (fld1 a b c m sc st (i + 1)) l1 y1 (by omega) (by omega)
    have tl : 64 * m = 64 * m := rfl
    refine Tr.loop (Tr.treeL fitJ5 (m := 5) (by rw [s33_nx]; exact Nat.le_refl _) (.of_eq (rnd33_tree a b c st.1 m sc st.2.2 i (inoN a b c) st.2.1 _) (.yes (by simp; omega) ?_)))
    rw [hi1]
    cases hok : inoOk a b c st.1 m (i + 1) with
    | false =>
      refine .no rfl ⟨⟨hl, tl, trivial⟩, rfl, ?_⟩
      have e : fld1 a b c m sc st (i + 1) = st := by unfold fld1; rw [if_neg (by rw [hok]; simp)]
      rw [e] at ih
      show Tr Tryz.prog 45 (.loop lp33) _ _
      rw [flds, e]
      exact ih
    | true =>
      obtain ⟨hB, hs, hi, hld⟩ := inoV_bk hok
      obtain ⟨s0, s1⟩ := hasS_iff.1 hs
      refine .yes rfl ?_
      rw [hB]
      show Okp (bif inS a sc (inoP b c (i + 1)).2.2.1 then _ else _)
      cases hin : inS a sc (inoP b c (i + 1)).2.2.1 with
      | false =>
        refine .no rfl ⟨⟨hl, tl, trivial⟩, rfl, ?_⟩
        have e : fld1 a b c m sc st (i + 1) = st := by unfold fld1; rw [if_neg (by rw [hin]; simp)]
        rw [e] at ih
        show Tr Tryz.prog 45 (.loop lp33) _ _
        rw [flds, e]
        exact ih
      | true =>
        have hG : inoG a b c st.1 m (i + 1) = inoV b c st.1 m (i + 1) := by unfold inoG; rw [if_pos hok]
        refine .yes rfl ?_
        rw [hG]
        refine ⟨⟨hl, tl, (inoV_in hl hok (hy _ s0 s1)).ok, hl, tl, trivial⟩, rfl, ?_⟩
        have e : fld1 a b c m sc st (i + 1) = (wr63 a b c m sc st (i + 1) (Fi.sh a b c (i + 1) (inoV b c st.1 m (i + 1)))).2 := by unfold fld1; rw [if_pos ⟨hok, hin⟩]
        rw [e] at ih
        show Tr Tryz.prog 45 (.loop lp33) _ _
        rw [flds, e]
        exact ih
theorem body33_eq : Tryz.f26.body = some c33 := by kernel_rfl
theorem body33 {st : St} (hm : (m : Int) = 2 + a * (2 + b + c)) (hg : geoB a b c = true) (hl : st.1.length = 64 * m) (hy : ByA st.1 m) {Q : X → S → Prop} (hq : Q .normal (at33 a b c m sc (inoN a b c) (inoN a b c) (fldR a b c m sc st))) :
    Tr Tryz.prog 45 c33 ⟨sl33, imgW a b c st.1 m sc st.2.2 st.2.1, 3, []⟩ Q := by
  have hab := ab_small hg
  have hN : inoN a b c = 3 * a * b := by unfold inoN; rw [if_pos hg]
  have lp := loop33 (sc := sc) hm (by rw [hN]; omega) (inoN a b c).toNat 0 st hl hy (by omega) (by omega)
  have h1 := ini33_tree a b c st.1 m sc st.2.2 st.2.1 (fun s => Tr Tryz.prog 45 (tailN 2 c33) s Q) (fun _ _ => False)
  refine Tr.prefixQ (m := 2) (keep := [0, 2, 12, 13]) (res := Tryz.f26.results.toList) fitJ5 (Okp.of_eq h1 ⟨trivial, ?_⟩)
  rw [s33a_eq]
  refine Tr.block (id := 0) (c := .loop lp33) (lp.mono fun x s' hx => ?_)
  obtain ⟨rfl, rfl⟩ := hx
  simp only [if_true]
  exact hq
theorem small33 {st : St} (hm : (m : Int) = 2 + a * (2 + b + c)) (hg : geoB a b c = true) (hl : st.1.length = 64 * m) (hy : ByA st.1 m) : SmallC Tryz.prog 26 args33 3 (imgT a b c m sc st) (imgT a b c m sc (fldR a b c m sc st)) (.tup []) := by
  refine Tr.smallC (fn := Tryz.f26) (c := c33) Tryz.func26 body33_eq (by rw [imgT, imgW_eq]; exact top_three) sl33_ok ?_
  refine Tr.low (n := 45) (m := 3) (Nat.le_refl _) (Tr.fgt (n := 45) [] (body33 hm hg hl hy ?_))
  exact ⟨by rw [f33_nx]; omega, .inl rfl, _, e33_res .., rfl, e33_hp .., e33_nx ..⟩
end
noncomputable def g33 : List RV → Int → Int → Int → Nat → Int → St → Option (RV × St × List Prop) := fun xs a b c n sc st => match xs with
  | [] => some (.tup [], fldR a b c n sc st, [(n : Int) = 2 + a * (2 + b + c), geoB a b c = true, ByA st.1 n])
  | _ => none
theorem sum33 : SumAOK Tryz.prog 26 (sumImg g33) := by
  refine sumImg_ok ⟨_, Tryz.func26, rfl⟩ (fun xs a b c n sc st v st' ps h hps hl => ?_) fun xs a b c n sc st v st' ps h => ?_
  · unfold g33 at h
    split at h <;> try (cases h; done)
    simp only [Option.some.injEq, Prod.mk.injEq] at h
    obtain ⟨rfl, rfl, rfl⟩ := h
    obtain ⟨h1, h2, h3, _⟩ := hps
    exact small33 h1 h2 hl h3
  · unfold g33 at h
    split at h <;> try (cases h; done)
    simp only [Option.some.injEq, Prod.mk.injEq] at h
    obtain ⟨rfl, rfl, rfl⟩ := h
    exact ⟨rfl, rfl⟩
end Go.Sx
