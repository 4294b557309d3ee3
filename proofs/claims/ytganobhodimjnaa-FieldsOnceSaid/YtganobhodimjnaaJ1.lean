/-
  Parts of the executor Sx over the model's code (any program), or of this seat's walks: words and proofs that the row's text uses.
-/
import Derived.Test.YtganobhodimjnaaH5
import Derived.Test.YtganobhodimjnaaI22
import Derived.Test.YtganobhodimjnaaH1
namespace Go.Sx
open Go.Proofs Go.RowKit
set_option maxRecDepth 100000
/-! ### where an inode lies -/
noncomputable def sgJ1 : FuncId → Option SumA := fun f => match f with | 70 => some (pureSum fGeo) | 47 => some (pureSum fGeo) | _ => none
theorem fitJ1 : Fit Try.prog (fun f => (sgJ1 f).map toSum) := ⟨fit_ng, fit_mixed, SumAOK.sum fun f sm h => by
  unfold sgJ1 at h
  split at h
  · cases h; exact (fGeo_ok 70 geoCheck).sum ⟨_, Try.func70, rfl⟩
  · cases h; exact (fGeo_ok 47 refGeoCheck).sum ⟨_, Try.func47, rfl⟩
  · cases h⟩
noncomputable abbrev geoA (a b c : Int) : RV := .one (.agg [.int .i64 a, .int .i64 b, .int .i64 c])
noncomputable def r61 (a b c : Int) (Q : RV → Prop) : Option Prop := runA Try.prog sgJ1 300 61 [geoA a b c] s0 αT fun v _ α => some (All α.ob ∧ Q v)
noncomputable def r34 (a b c : Int) (Q : RV → Prop) : Option Prop := runA Try.prog sgJ1 300 34 [geoA a b c] s0 αT fun v _ α => some (All α.ob ∧ Q v)
noncomputable def r62 (a b c i : Int) (Q : RV → Prop) : Option Prop := runA Try.prog sgJ1 300 62 [geoA a b c, .one (.c (.int .i64 i))] s0 αT fun v _ α => some (All α.ob ∧ Q v)
noncomputable def r35 (a b c i : Int) (Q : RV → Prop) : Option Prop := runA Try.prog sgJ1 300 35 [geoA a b c, .one (.c (.int .i64 i))] s0 αT fun v _ α => some (All α.ob ∧ Q v)
noncomputable def r61_t (a : Int) (b : Int) (c : Int) (Q : RV → Prop) : Option Prop :=
 (bif errI (geoB a b c) != 0 then (
  some ((All [] ∧ Q (RV.one (AV.c (Cell.int IntKind.i64 0)))))
  ) else (
  some ((All [] ∧ Q (RV.one (AV.c (Cell.int IntKind.i64 (IntKind.i64.wrap (IntKind.i64.wrap (3 * a) * b)))))))
  ))
theorem r61_tree (a : Int) (b : Int) (c : Int) (Q : RV → Prop) : r61 a b c Q = r61_t a b c Q := by kernel_rfl
noncomputable def r34_t (a : Int) (b : Int) (c : Int) (Q : RV → Prop) : Option Prop :=
 (bif errI (geoB a b c) != 0 then (
  some ((All [] ∧ Q (RV.one (AV.c (Cell.int IntKind.i64 0)))))
  ) else (
  some ((All [] ∧ Q (RV.one (AV.c (Cell.int IntKind.i64 (IntKind.i64.wrap (IntKind.i64.wrap (3 * a) * b)))))))
  ))
theorem r34_tree (a : Int) (b : Int) (c : Int) (Q : RV → Prop) : r34 a b c Q = r34_t a b c Q := by kernel_rfl
noncomputable abbrev r62_x0 (a : Int) (b : Int) (c : Int) : Bool := errI (geoB a b c) != 0
noncomputable abbrev r62_x1 (b : Int) : Int := IntKind.i64.wrap (3 * b)
noncomputable abbrev r62_x2 (b : Int) : Bool := decide ¬(r62_x1 b) = 0
noncomputable abbrev r62_x3 (i : Int) : Int := IntKind.i64.wrap (i - 1)
noncomputable abbrev r62_x4 (b : Int) (i : Int) : Int := (r62_x3 i).tmod (r62_x1 b)
noncomputable abbrev r62_x5 (b : Int) (i : Int) : Int := IntKind.i64.wrap ((r62_x3 i).tdiv (r62_x1 b))
noncomputable abbrev r62_x6 (b : Int) (i : Int) : Bool := decide ((r62_x5 b i) < 0)
noncomputable abbrev r62_x7 (a : Int) (b : Int) (i : Int) : Bool := decide ((r62_x5 b i) ≥ a)
noncomputable abbrev r62_x8 (a : Int) (b : Int) : Int := IntKind.i64.wrap (IntKind.i64.wrap (3 * a) * b)
noncomputable def r62_t (a : Int) (b : Int) (c : Int) (i : Int) (Q : RV → Prop) : Option Prop :=
 (bif decide (i < 1) then (
  some ((All [] ∧ Q (RV.tup
  [AV.agg [Cell.int IntKind.i64 0, Cell.int IntKind.i64 0, Cell.int IntKind.i64 0, Cell.int IntKind.i64 0],
    AV.c (Cell.int IntKind.i64 2)])))
  ) else (
  (bif (r62_x0 a b c) then (
   (bif decide (i > 0) then (
    some ((All [] ∧ Q (RV.tup
  [AV.agg [Cell.int IntKind.i64 0, Cell.int IntKind.i64 0, Cell.int IntKind.i64 0, Cell.int IntKind.i64 0],
    AV.c (Cell.int IntKind.i64 2)])))
    ) else (
    (bif (r62_x2 b) then (
     (bif (r62_x2 b) then (
      (bif (r62_x0 a b c) then (
       some ((All [] ∧ Q (RV.tup
  [AV.agg
      [Cell.int IntKind.i64 0, Cell.int IntKind.i64 ((r62_x4 b i).tmod 3), Cell.int IntKind.i64 (r62_x5 b i),
        Cell.int IntKind.i64 (r62_x4 b i)],
    AV.c (Cell.int IntKind.i64 0)])))
       ) else (
       (bif (r62_x6 b i) then (
        some ((All [] ∧ Q (RV.tup
  [AV.agg
      [Cell.int IntKind.i64 0, Cell.int IntKind.i64 ((r62_x4 b i).tmod 3), Cell.int IntKind.i64 (r62_x5 b i),
        Cell.int IntKind.i64 (r62_x4 b i)],
    AV.c (Cell.int IntKind.i64 0)])))
        ) else (
        (bif (r62_x7 a b i) then (
         some ((All [] ∧ Q (RV.tup
  [AV.agg
      [Cell.int IntKind.i64 0, Cell.int IntKind.i64 ((r62_x4 b i).tmod 3), Cell.int IntKind.i64 (r62_x5 b i),
        Cell.int IntKind.i64 (r62_x4 b i)],
    AV.c (Cell.int IntKind.i64 0)])))
         ) else (
         some ((All [] ∧ Q (RV.tup
  [AV.agg
      [Cell.int IntKind.i64
          (IntKind.i64.wrap
            (IntKind.i64.wrap
                (2 + IntKind.i64.wrap ((r62_x5 b i) * IntKind.i64.wrap (IntKind.i64.wrap (2 + b) + c))) +
              IntKind.i64.wrap (2 + IntKind.i64.wrap ((r62_x4 b i).tdiv 3)))),
        Cell.int IntKind.i64 ((r62_x4 b i).tmod 3), Cell.int IntKind.i64 (r62_x5 b i),
        Cell.int IntKind.i64 (r62_x4 b i)],
    AV.c (Cell.int IntKind.i64 0)])))
         ))
        ))
       ))
      ) else none)
     ) else none)
    ))
   ) else (
   (bif decide (i > (r62_x8 a b)) then (
    some ((All [] ∧ Q (RV.tup
  [AV.agg [Cell.int IntKind.i64 0, Cell.int IntKind.i64 0, Cell.int IntKind.i64 0, Cell.int IntKind.i64 0],
    AV.c (Cell.int IntKind.i64 2)])))
    ) else (
    (bif (r62_x2 b) then (
     (bif (r62_x2 b) then (
      (bif (r62_x0 a b c) then (
       some ((All [] ∧ Q (RV.tup
  [AV.agg
      [Cell.int IntKind.i64 0, Cell.int IntKind.i64 ((r62_x4 b i).tmod 3), Cell.int IntKind.i64 (r62_x5 b i),
        Cell.int IntKind.i64 (r62_x4 b i)],
    AV.c (Cell.int IntKind.i64 0)])))
       ) else (
       (bif (r62_x6 b i) then (
        some ((All [] ∧ Q (RV.tup
  [AV.agg
      [Cell.int IntKind.i64 0, Cell.int IntKind.i64 ((r62_x4 b i).tmod 3), Cell.int IntKind.i64 (r62_x5 b i),
        Cell.int IntKind.i64 (r62_x4 b i)],
    AV.c (Cell.int IntKind.i64 0)])))
        ) else (
        (bif (r62_x7 a b i) then (
         some ((All [] ∧ Q (RV.tup
  [AV.agg
      [Cell.int IntKind.i64 0, Cell.int IntKind.i64 ((r62_x4 b i).tmod 3), Cell.int IntKind.i64 (r62_x5 b i),
        Cell.int IntKind.i64 (r62_x4 b i)],
    AV.c (Cell.int IntKind.i64 0)])))
         ) else (
         some ((All [] ∧ Q (RV.tup
  [AV.agg
      [Cell.int IntKind.i64
          (IntKind.i64.wrap
            (IntKind.i64.wrap
                (2 + IntKind.i64.wrap ((r62_x5 b i) * IntKind.i64.wrap (IntKind.i64.wrap (2 + b) + c))) +
              IntKind.i64.wrap (2 + IntKind.i64.wrap ((r62_x4 b i).tdiv 3)))),
        Cell.int IntKind.i64 ((r62_x4 b i).tmod 3), Cell.int IntKind.i64 (r62_x5 b i),
        Cell.int IntKind.i64 (r62_x4 b i)],
    AV.c (Cell.int IntKind.i64 0)])))
         ))
        ))
       ))
      ) else none)
     ) else none)
    ))
   ))
  ))
theorem r62_tree (a : Int) (b : Int) (c : Int) (i : Int) (Q : RV → Prop) : r62 a b c i Q = r62_t a b c i Q := by kernel_rfl
noncomputable abbrev r35_x0 (a : Int) (b : Int) (c : Int) : Bool := errI (geoB a b c) != 0
noncomputable abbrev r35_x1 (b : Int) : Int := IntKind.i64.wrap (3 * b)
noncomputable abbrev r35_x2 (b : Int) : Bool := decide ¬(r35_x1 b) = 0
noncomputable abbrev r35_x3 (i : Int) : Int := IntKind.i64.wrap (i - 1)
noncomputable abbrev r35_x4 (b : Int) (i : Int) : Int := (r35_x3 i).tmod (r35_x1 b)
noncomputable abbrev r35_x5 (b : Int) (i : Int) : Int := IntKind.i64.wrap ((r35_x4 b i).tdiv 3)
noncomputable abbrev r35_x6 (b : Int) (i : Int) : Int := IntKind.i64.wrap ((r35_x3 i).tdiv (r35_x1 b))
noncomputable abbrev r35_x7 (b : Int) (i : Int) : Bool := decide ((r35_x6 b i) < 0)
noncomputable abbrev r35_x8 (a : Int) (b : Int) (i : Int) : Bool := decide ((r35_x6 b i) ≥ a)
noncomputable abbrev r35_x9 (a : Int) (b : Int) : Int := IntKind.i64.wrap (IntKind.i64.wrap (3 * a) * b)
noncomputable def r35_t (a : Int) (b : Int) (c : Int) (i : Int) (Q : RV → Prop) : Option Prop :=
 (bif (r35_x0 a b c) then (
  some ((All [] ∧ Q (RV.tup
  [AV.agg [Cell.int IntKind.i64 0, Cell.int IntKind.i64 0, Cell.int IntKind.i64 0, Cell.int IntKind.i64 0],
    AV.c (Cell.int IntKind.i64 2)])))
  ) else (
  (bif decide (i < 1) then (
   some ((All [] ∧ Q (RV.tup
  [AV.agg [Cell.int IntKind.i64 0, Cell.int IntKind.i64 0, Cell.int IntKind.i64 0, Cell.int IntKind.i64 0],
    AV.c (Cell.int IntKind.i64 2)])))
   ) else (
   (bif (r35_x0 a b c) then (
    (bif decide (i > 0) then (
     some ((All [] ∧ Q (RV.tup
  [AV.agg [Cell.int IntKind.i64 0, Cell.int IntKind.i64 0, Cell.int IntKind.i64 0, Cell.int IntKind.i64 0],
    AV.c (Cell.int IntKind.i64 2)])))
     ) else (
     (bif (r35_x2 b) then (
      (bif (r35_x2 b) then (
       (bif (r35_x0 a b c) then (
        some ((All [] ∧ Q (RV.tup
  [AV.agg
      [Cell.int IntKind.i64 (IntKind.i64.wrap (2 + (r35_x5 b i))), Cell.int IntKind.i64 ((r35_x4 b i).tmod 3),
        Cell.int IntKind.i64 (r35_x6 b i), Cell.int IntKind.i64 (r35_x4 b i)],
    AV.c (Cell.int IntKind.i64 0)])))
        ) else (
        (bif (r35_x7 b i) then (
         some ((All [] ∧ Q (RV.tup
  [AV.agg
      [Cell.int IntKind.i64 (IntKind.i64.wrap (2 + (r35_x5 b i))), Cell.int IntKind.i64 ((r35_x4 b i).tmod 3),
        Cell.int IntKind.i64 (r35_x6 b i), Cell.int IntKind.i64 (r35_x4 b i)],
    AV.c (Cell.int IntKind.i64 0)])))
         ) else (
         (bif (r35_x8 a b i) then (
          some ((All [] ∧ Q (RV.tup
  [AV.agg
      [Cell.int IntKind.i64 (IntKind.i64.wrap (2 + (r35_x5 b i))), Cell.int IntKind.i64 ((r35_x4 b i).tmod 3),
        Cell.int IntKind.i64 (r35_x6 b i), Cell.int IntKind.i64 (r35_x4 b i)],
    AV.c (Cell.int IntKind.i64 0)])))
          ) else (
          some ((All [] ∧ Q (RV.tup
  [AV.agg
      [Cell.int IntKind.i64
          (IntKind.i64.wrap
            (IntKind.i64.wrap
                (IntKind.i64.wrap
                    (2 + IntKind.i64.wrap ((r35_x6 b i) * IntKind.i64.wrap (IntKind.i64.wrap (2 + b) + c))) +
                  2) +
              (r35_x5 b i))),
        Cell.int IntKind.i64 ((r35_x4 b i).tmod 3), Cell.int IntKind.i64 (r35_x6 b i),
        Cell.int IntKind.i64 (r35_x4 b i)],
    AV.c (Cell.int IntKind.i64 0)])))
          ))
         ))
        ))
       ) else none)
      ) else none)
     ))
    ) else (
    (bif decide (i > (r35_x9 a b)) then (
     some ((All [] ∧ Q (RV.tup
  [AV.agg [Cell.int IntKind.i64 0, Cell.int IntKind.i64 0, Cell.int IntKind.i64 0, Cell.int IntKind.i64 0],
    AV.c (Cell.int IntKind.i64 2)])))
     ) else (
     (bif (r35_x2 b) then (
      (bif (r35_x2 b) then (
       (bif (r35_x0 a b c) then (
        some ((All [] ∧ Q (RV.tup
  [AV.agg
      [Cell.int IntKind.i64 (IntKind.i64.wrap (2 + (r35_x5 b i))), Cell.int IntKind.i64 ((r35_x4 b i).tmod 3),
        Cell.int IntKind.i64 (r35_x6 b i), Cell.int IntKind.i64 (r35_x4 b i)],
    AV.c (Cell.int IntKind.i64 0)])))
        ) else (
        (bif (r35_x7 b i) then (
         some ((All [] ∧ Q (RV.tup
  [AV.agg
      [Cell.int IntKind.i64 (IntKind.i64.wrap (2 + (r35_x5 b i))), Cell.int IntKind.i64 ((r35_x4 b i).tmod 3),
        Cell.int IntKind.i64 (r35_x6 b i), Cell.int IntKind.i64 (r35_x4 b i)],
    AV.c (Cell.int IntKind.i64 0)])))
         ) else (
         (bif (r35_x8 a b i) then (
          some ((All [] ∧ Q (RV.tup
  [AV.agg
      [Cell.int IntKind.i64 (IntKind.i64.wrap (2 + (r35_x5 b i))), Cell.int IntKind.i64 ((r35_x4 b i).tmod 3),
        Cell.int IntKind.i64 (r35_x6 b i), Cell.int IntKind.i64 (r35_x4 b i)],
    AV.c (Cell.int IntKind.i64 0)])))
          ) else (
          some ((All [] ∧ Q (RV.tup
  [AV.agg
      [Cell.int IntKind.i64
          (IntKind.i64.wrap
            (IntKind.i64.wrap
                (IntKind.i64.wrap
                    (2 + IntKind.i64.wrap ((r35_x6 b i) * IntKind.i64.wrap (IntKind.i64.wrap (2 + b) + c))) +
                  2) +
              (r35_x5 b i))),
        Cell.int IntKind.i64 ((r35_x4 b i).tmod 3), Cell.int IntKind.i64 (r35_x6 b i),
        Cell.int IntKind.i64 (r35_x4 b i)],
    AV.c (Cell.int IntKind.i64 0)])))
          ))
         ))
        ))
       ) else none)
      ) else none)
     ))
    ))
   ))
  ))
theorem r35_tree (a : Int) (b : Int) (c : Int) (i : Int) (Q : RV → Prop) : r35 a b c i Q = r35_t a b c i Q := by kernel_rfl

/-- how many inodes there are -/
def inoN (a b c : Int) : Int := if geoB a b c then 3 * a * b else 0
def fInN (args : List RV) : Option (RV × List Prop) := match args with
  | [.one (.agg [.int .i64 a, .int .i64 b, .int .i64 c])] => some (.one (.c (.int .i64 (inoN a b c))), [])
  | _ => none
theorem ab_small {a b c : Int} (h : geoB a b c = true) : 3 ≤ 3 * a * b ∧ 3 * a * b ≤ 192 := by
  obtain ⟨g1, g2, g3, g4, g5, g6⟩ := geoB_iff.1 h
  have h1 : 3 * a * 1 ≤ 3 * a * b := Int.mul_le_mul_of_nonneg_left g3 (by omega)
  have h2 : 3 * a * b ≤ 3 * a * 8 := Int.mul_le_mul_of_nonneg_left g4 (by omega)
  omega
theorem inoN_wrap {a b c : Int} (h : geoB a b c = true) : IntKind.i64.wrap (IntKind.i64.wrap (3 * a) * b) = 3 * a * b := by
  obtain ⟨g1, g2, g3, g4, g5, g6⟩ := geoB_iff.1 h
  have := ab_small h
  rw [IntWalk.i64_in (3 * a) (by omega), IntWalk.i64_in _ (by omega)]
theorem fInN_ok (f : FuncId) (hr : ∀ a b c (Q : RV → Prop), runA Try.prog sgJ1 300 f [geoA a b c] s0 αT (fun v _ α => some (All α.ob ∧ Q v)) = r61_t a b c Q) : PureOK Try.prog f fInN := by
  intro args v ps h hp ρ w vs ha
  unfold fInN at h
  split at h <;> try (cases h; done)
  rename_i a b c
  simp only [Option.some.injEq, Prod.mk.injEq] at h
  obtain ⟨rfl, rfl⟩ := h
  refine pure_tree fitJ1 (by rfl) (by rfl) (.of_eq (hr a b c _) ?_) ρ w vs ha
  unfold inoN
  cases hg : geoB a b c with
  | false => exact .yes (by rw [errI_ne, hg]; rfl) ⟨trivial, rfl⟩
  | true => exact .no (by rw [errI_ne, hg]; rfl) ⟨trivial, by rw [inoN_wrap hg]; rfl⟩
theorem fInN61 : PureOK Try.prog 61 fInN := fInN_ok 61 r61_tree
theorem fInN34 : PureOK Try.prog 34 fInN := fInN_ok 34 r34_tree
/-- sector, slot, group, number in it -/
def inoP (b c i : Int) : Int × Int × Int × Int := (2 + (i - 1) / (3 * b) * (2 + b + c) + 2 + (i - 1) % (3 * b) / 3, (i - 1) % (3 * b) % 3, (i - 1) / (3 * b), (i - 1) % (3 * b))
def inoB (a b c i : Int) : Bool := geoB a b c && (decide (1 ≤ i) && decide (i ≤ 3 * a * b))
def fIno (args : List RV) : Option (RV × List Prop) := match args with
  | [.one (.agg [.int .i64 a, .int .i64 b, .int .i64 c]), .one (.c (.int .i64 i))] => some (.tup [.agg [.int .i64 (sel (inoB a b c i) (inoP b c i).1), .int .i64 (sel (inoB a b c i) (inoP b c i).2.1), .int .i64 (sel (inoB a b c i) (inoP b c i).2.2.1), .int .i64 (sel (inoB a b c i) (inoP b c i).2.2.2)], .c (.int .i64 (if inoB a b c i then 0 else 2))], [])
  | _ => none
structure InoF (a b c i : Int) : Prop where
  k0 : 0 ≤ (i - 1) / (3 * b)
  k1 : (i - 1) / (3 * b) < a
  r0 : 0 ≤ (i - 1) % (3 * b)
  r1 : (i - 1) % (3 * b) < 3 * b
  m0 : 0 ≤ (i - 1) / (3 * b) * (2 + b + c)
  m1 : (i - 1) / (3 * b) * (2 + b + c) + (2 + b + c) ≤ a * (2 + b + c)
  d0 : 0 ≤ (i - 1) % (3 * b) / 3
  d1 : (i - 1) % (3 * b) / 3 < b
theorem inoF {a b c i : Int} (hg : geoB a b c = true) (h0 : 1 ≤ i) (h1 : i ≤ 3 * a * b) : InoF a b c i := by
  obtain ⟨g1, g2, g3, g4, g5, g6⟩ := geoB_iff.1 hg
  have hk : (i - 1) / (3 * b) < a := Int.ediv_lt_of_lt_mul (by omega) (by rw [← Int.mul_assoc, Int.mul_comm a 3]; omega)
  have hk0 : 0 ≤ (i - 1) / (3 * b) := Int.ediv_nonneg (by omega) (by omega)
  have r1 := Int.emod_lt_of_pos (i - 1) (show 0 < 3 * b by omega)
  have r0 := Int.emod_nonneg (i - 1) (show 3 * b ≠ 0 by omega)
  have m1 : ((i - 1) / (3 * b) + 1) * (2 + b + c) ≤ a * (2 + b + c) := Int.mul_le_mul_of_nonneg_right (by omega) (by omega)
  rw [Int.add_mul, Int.one_mul] at m1
  exact ⟨hk0, hk, r0, r1, Int.mul_nonneg hk0 (by omega), m1, by omega, by omega⟩
theorem tdiv_ed {x y : Int} (h : 0 ≤ x) : x.tdiv y = x / y := Int.tdiv_eq_ediv_of_nonneg h
theorem tmod_em {x y : Int} (h : 0 ≤ x) : x.tmod y = x % y := Int.tmod_eq_emod_of_nonneg h
theorem inoB_f {a b c i : Int} (h : geoB a b c = false ∨ i < 1 ∨ i > 3 * a * b) : inoB a b c i = false := by
  unfold inoB
  rcases h with h | h | h
  · rw [h]; rfl
  · rw [show decide (1 ≤ i) = false by simp; omega]; simp
  · rw [show decide (i ≤ 3 * a * b) = false by simp; omega]; simp
abbrev noIno : RV := .tup [.agg [.int .i64 0, .int .i64 0, .int .i64 0, .int .i64 0], .c (.int .i64 2)]
theorem fIno62 : PureOK Try.prog 62 fIno := by
  intro args v ps h hp ρ w vs ha
  unfold fIno at h
  split at h <;> try (cases h; done)
  rename_i a b c i
  simp only [Option.some.injEq, Prod.mk.injEq] at h
  obtain ⟨rfl, rfl⟩ := h
  refine pure_tree fitJ1 (by rfl) (by rfl) (.of_eq (r62_tree a b c i _) ?_) ρ w vs ha
  unfold r62_t
  by_cases h0 : i < 1
  · rw [inoB_f (.inr (.inl h0))]
    exact .yes (by simp; exact h0) ⟨trivial, rfl⟩
  refine .no (by simp; omega) ?_
  cases hg : geoB a b c with
  | false =>
    rw [inoB_f (.inl hg)]
    exact .yes (by show (errI (geoB a b c) != 0) = true; rw [errI_ne, hg]; rfl) (.yes (by simp; omega) ⟨trivial, rfl⟩)
  | true =>
    have e0 : r62_x0 a b c = false := by show (errI (geoB a b c) != 0) = false; rw [errI_ne, hg]; rfl
    obtain ⟨g1, g2, g3, g4, g5, g6⟩ := geoB_iff.1 hg
    refine .no e0 ?_
    have e8 : r62_x8 a b = 3 * a * b := inoN_wrap hg
    have hab := ab_small hg
    by_cases h1 : i > 3 * a * b
    · rw [inoB_f (.inr (.inr h1))]
      exact .yes (by rw [e8]; simp; exact h1) ⟨trivial, rfl⟩
    · have F := inoF hg (by omega) (show i ≤ 3 * a * b by omega)
      have hb := mul_bd hg
      obtain ⟨f1, f2, f3, f4, f5, f6, f7, f8⟩ := F
      have hB : inoB a b c i = true := by unfold inoB; rw [hg]; simp; omega
      have e1 : r62_x1 b = 3 * b := IntWalk.i64_in _ (by omega)
      have e2 : r62_x2 b = true := by show decide (¬ r62_x1 b = 0) = true; rw [e1]; simp; omega
      have e3 : r62_x3 i = i - 1 := IntWalk.i64_in _ (by omega)
      have e4 : r62_x4 b i = (i - 1) % (3 * b) := by show (r62_x3 i).tmod (r62_x1 b) = _; rw [e3, e1, tmod_em (by omega)]
      have e5 : r62_x5 b i = (i - 1) / (3 * b) := by show IntKind.i64.wrap ((r62_x3 i).tdiv (r62_x1 b)) = _; rw [e3, e1, tdiv_ed (by omega)]; exact IntWalk.i64_in _ (by omega)
      have e6 : r62_x6 b i = false := by show decide (r62_x5 b i < 0) = false; rw [e5]; simp; omega
      have e7 : r62_x7 a b i = false := by show decide (r62_x5 b i ≥ a) = false; rw [e5]; simp; omega
      refine .no (by rw [e8]; simp; omega) (.chk e2 (.chk e2 (.no e0 (.no e6 (.no e7 ⟨trivial, ?_⟩)))))
      rw [e4, e5, tmod_em f3, tdiv_ed f3, IntWalk.i64_in (2 + b) (by omega), IntWalk.i64_in (2 + b + c) (by omega), IntWalk.i64_in ((i - 1) / (3 * b) * (2 + b + c)) (by omega), IntWalk.i64_in ((i - 1) % (3 * b) / 3) (by omega),
        IntWalk.i64_in (2 + (i - 1) / (3 * b) * (2 + b + c)) (by omega), IntWalk.i64_in (2 + (i - 1) % (3 * b) / 3) (by omega), IntWalk.i64_in _ (by omega)]
      rw [hB]
      unfold sel inoP
      rw [show 2 + (i - 1) / (3 * b) * (2 + b + c) + (2 + (i - 1) % (3 * b) / 3) = 2 + (i - 1) / (3 * b) * (2 + b + c) + 2 + (i - 1) % (3 * b) / 3 by omega]
      rfl
theorem fIno35 : PureOK Try.prog 35 fIno := by
  intro args v ps h hp ρ w vs ha
  unfold fIno at h
  split at h <;> try (cases h; done)
  rename_i a b c i
  simp only [Option.some.injEq, Prod.mk.injEq] at h
  obtain ⟨rfl, rfl⟩ := h
  refine pure_tree fitJ1 (by rfl) (by rfl) (.of_eq (r35_tree a b c i _) ?_) ρ w vs ha
  unfold r35_t
  cases hg : geoB a b c with
  | false =>
    rw [inoB_f (.inl hg)]
    exact .yes (by show (errI (geoB a b c) != 0) = true; rw [errI_ne, hg]; rfl) ⟨trivial, rfl⟩
  | true =>
    have e0 : r35_x0 a b c = false := by show (errI (geoB a b c) != 0) = false; rw [errI_ne, hg]; rfl
    obtain ⟨g1, g2, g3, g4, g5, g6⟩ := geoB_iff.1 hg
    refine .no e0 ?_
    by_cases h0 : i < 1
    · rw [inoB_f (.inr (.inl h0))]
      exact .yes (by simp; exact h0) ⟨trivial, rfl⟩
    refine .no (by simp; omega) (.no e0 ?_)
    have e9 : r35_x9 a b = 3 * a * b := inoN_wrap hg
    have hab := ab_small hg
    by_cases h1 : i > 3 * a * b
    · rw [inoB_f (.inr (.inr h1))]
      exact .yes (by rw [e9]; simp; exact h1) ⟨trivial, rfl⟩
    · have F := inoF hg (by omega) (show i ≤ 3 * a * b by omega)
      have hb := mul_bd hg
      obtain ⟨f1, f2, f3, f4, f5, f6, f7, f8⟩ := F
      have hB : inoB a b c i = true := by unfold inoB; rw [hg]; simp; omega
      have e1 : r35_x1 b = 3 * b := IntWalk.i64_in _ (by omega)
      have e2 : r35_x2 b = true := by show decide (¬ r35_x1 b = 0) = true; rw [e1]; simp; omega
      have e3 : r35_x3 i = i - 1 := IntWalk.i64_in _ (by omega)
      have e4 : r35_x4 b i = (i - 1) % (3 * b) := by show (r35_x3 i).tmod (r35_x1 b) = _; rw [e3, e1, tmod_em (by omega)]
      have e5 : r35_x5 b i = (i - 1) % (3 * b) / 3 := by show IntKind.i64.wrap ((r35_x4 b i).tdiv 3) = _; rw [e4, tdiv_ed f3]; exact IntWalk.i64_in _ (by omega)
      have e6 : r35_x6 b i = (i - 1) / (3 * b) := by show IntKind.i64.wrap ((r35_x3 i).tdiv (r35_x1 b)) = _; rw [e3, e1, tdiv_ed (by omega)]; exact IntWalk.i64_in _ (by omega)
      have e7 : r35_x7 b i = false := by show decide (r35_x6 b i < 0) = false; rw [e6]; simp; omega
      have e8 : r35_x8 a b i = false := by show decide (r35_x6 b i ≥ a) = false; rw [e6]; simp; omega
      refine .no (by rw [e9]; simp; omega) (.chk e2 (.chk e2 (.no e0 (.no e7 (.no e8 ⟨trivial, ?_⟩)))))
      rw [e4, e5, e6, tmod_em f3, IntWalk.i64_in (2 + b) (by omega), IntWalk.i64_in (2 + b + c) (by omega), IntWalk.i64_in ((i - 1) / (3 * b) * (2 + b + c)) (by omega),
        IntWalk.i64_in (2 + (i - 1) / (3 * b) * (2 + b + c)) (by omega), IntWalk.i64_in (2 + (i - 1) / (3 * b) * (2 + b + c) + 2) (by omega), IntWalk.i64_in _ (by omega)]
      rw [hB]
      unfold sel inoP
      rfl
end Go.Sx

namespace Go.Sx
open Go.Proofs Go.RowKit
set_option maxRecDepth 100000
/-! ### an inode out of a load, and into it -/
noncomputable abbrev r66 (p : List Int) (n : Int) (Q : RV → Prop) : Option Prop := runA Try.prog sg00 300 66 [.one (.ints .u8 p 54), .one (.c (.int .i64 n))] s0 αT fun v _ α => some (All α.ob ∧ Q v)
noncomputable def r66a (p : List Int) (Q : RV → Prop) : Option Prop := r66 p 0 Q
noncomputable def r66b (p : List Int) (Q : RV → Prop) : Option Prop := r66 p 1 Q
noncomputable def r66c (p : List Int) (Q : RV → Prop) : Option Prop := r66 p 2 Q
def le16u (x y : Int) : Int := IntKind.u16.wrap (or32 (or32 0 (shl32 x 0)) (shl32 y 8))
def dec18 (b : List Int) : Fi.Ino9 := ⟨b.getD 0 0, b.getD 1 0, le32 (b.getD 2 0) (b.getD 3 0) (b.getD 4 0) (b.getD 5 0), le16u (b.getD 6 0) (b.getD 7 0), le16u (b.getD 8 0) (b.getD 9 0), le16u (b.getD 10 0) (b.getD 11 0), le16u (b.getD 12 0) (b.getD 13 0), le16u (b.getD 14 0) (b.getD 15 0), le16u (b.getD 16 0) (b.getD 17 0)⟩
abbrev lo (x : Int) : Int := IntKind.u8.wrap x
abbrev hi (x : Int) : Int := IntKind.u8.wrap (x.fdiv 256)
def enc18 (y : Fi.Ino9) : List Int := [y.k, y.l, IntKind.u8.wrap (y.s.fdiv 1), hi y.s, IntKind.u8.wrap (y.s.fdiv 65536), IntKind.u8.wrap (y.s.fdiv 16777216), lo y.d0, hi y.d0, lo y.d1, hi y.d1, lo y.d2, hi y.d2, lo y.d3, hi y.d3, lo y.sg, hi y.sg, lo y.db, hi y.db]
abbrev slot18 (p : List Int) (o : Nat) : List Int := (p.drop o).take 18
theorem r66a_run (p : List Int) (Q : RV → Prop) : r66 p 0 Q = some (All [] ∧ Q (.tup [.agg (dec18 (slot18 p 0)).L, .c (.int .i64 0)])) := by kernel_rfl
theorem r66b_run (p : List Int) (Q : RV → Prop) : r66 p 1 Q = some (All [] ∧ Q (.tup [.agg (dec18 (slot18 p 18)).L, .c (.int .i64 0)])) := by kernel_rfl
theorem r66c_run (p : List Int) (Q : RV → Prop) : r66 p 2 Q = some (All [] ∧ Q (.tup [.agg (dec18 (slot18 p 36)).L, .c (.int .i64 0)])) := by kernel_rfl
noncomputable def r88 (p : List Int) (n k l s d0 d1 d2 d3 sg db : Int) : Option (RV × List Prop) := runA Try.prog sg00 300 88 [.one (.ints .u8 p 54), .one (.c (.int .i64 n)), .one (.agg [.int .u8 k, .int .u8 l, .int .u32 s, .int .u16 d0, .int .u16 d1, .int .u16 d2, .int .u16 d3, .int .u16 sg, .int .u16 db])] s0 ⟨0, [], []⟩ fun v _ α => some (v, α.ob)
theorem r88a_run (p : List Int) (k l s d0 d1 d2 d3 sg db : Int) : r88 p 0 k l s d0 d1 d2 d3 sg db = some (.tup [.ints .u8 (t54 (over z54 0 (t54 (over p 0 (enc18 ⟨k, l, s, d0, d1, d2, d3, sg, db⟩))))) 54, .c (.int .i64 0)], []) := by kernel_rfl
theorem r88b_run (p : List Int) (k l s d0 d1 d2 d3 sg db : Int) : r88 p 1 k l s d0 d1 d2 d3 sg db = some (.tup [.ints .u8 (t54 (over z54 0 (t54 (over p 18 (enc18 ⟨k, l, s, d0, d1, d2, d3, sg, db⟩))))) 54, .c (.int .i64 0)], []) := by kernel_rfl
theorem r88c_run (p : List Int) (k l s d0 d1 d2 d3 sg db : Int) : r88 p 2 k l s d0 d1 d2 d3 sg db = some (.tup [.ints .u8 (t54 (over z54 0 (t54 (over p 36 (enc18 ⟨k, l, s, d0, d1, d2, d3, sg, db⟩))))) 54, .c (.int .i64 0)], []) := by kernel_rfl
/-! ### there and back -/
theorem le16u_eq {x y : Int} (hx : 0 ≤ x ∧ x < 256) (hy : 0 ≤ y ∧ y < 256) : le16u x y = x + 256 * y := by
  unfold le16u
  rw [(shl_eq hx).1, (shl_eq hy).2.1]
  have k0 : or32 0 x = 0 + x := or32_add (a := x) 0 (by omega) (by decide) (by omega) (by simp) ⟨by omega, by omega⟩ ⟨by omega, by omega⟩ ⟨by omega, by omega⟩
  have k1 : or32 x (256 * y) = x + 256 * y := or32_add (a := y) 8 (by omega) (by simpa using hx.2) (by omega) (by simp) ⟨by omega, by omega⟩ ⟨by omega, by omega⟩ ⟨by omega, by omega⟩
  rw [k0, Int.zero_add, k1, wrap_u16]; omega
theorem fdiv_e {x k : Int} (hk : 0 ≤ k) : x.fdiv k = x / k := Int.fdiv_eq_ediv_of_nonneg _ hk
abbrev U8 (x : Int) : Prop := 0 ≤ x ∧ x < 256
/-- numbers of their sizes -/
structure In9 (y : Fi.Ino9) : Prop where
  k : U8 y.k
  l : U8 y.l
  s : U32 y.s
  d0 : Fi.U16 y.d0
  d1 : Fi.U16 y.d1
  d2 : Fi.U16 y.d2
  d3 : Fi.U16 y.d3
  sg : Fi.U16 y.sg
  db : Fi.U16 y.db
theorem In9.ok {y : Fi.Ino9} (h : In9 y) : y.Ok := ⟨h.k.1, h.s.1, h.s.2, h.d0, h.d1, h.d2, h.d3, h.sg, h.db⟩
theorem lohi {x : Int} (h : Fi.U16 x) : le16u (lo x) (hi x) = x := by
  obtain ⟨h1, h2⟩ := h
  have e1 : lo x = x % 256 := wrap_u8 x
  have e2 : hi x = x / 256 := by show IntKind.u8.wrap (x.fdiv 256) = _; rw [fdiv_e (by decide), wrap_u8]; omega
  rw [e1, e2, le16u_eq (by omega) (by omega)]; omega
theorem size_back {x : Int} (h : U32 x) : le32 (IntKind.u8.wrap (x.fdiv 1)) (hi x) (IntKind.u8.wrap (x.fdiv 65536)) (IntKind.u8.wrap (x.fdiv 16777216)) = x := by
  have := le32_put32 h
  exact this
theorem dec_enc {y : Fi.Ino9} (h : In9 y) : dec18 (enc18 y) = y := by
  obtain ⟨k, l, s, d0, d1, d2, d3, sg, db⟩ := y
  obtain ⟨hk, hl, hs, h0, h1, h2, h3, h4, h5⟩ := h
  unfold dec18 enc18
  simp only [List.getD_cons_zero, List.getD_cons_succ]
  rw [size_back hs, lohi h0, lohi h1, lohi h2, lohi h3, lohi h4, lohi h5]
theorem hilo {x y : Int} (hx : U8 x) (hy : U8 y) : lo (le16u x y) = x ∧ hi (le16u x y) = y := by
  rw [le16u_eq hx hy]
  constructor
  · show IntKind.u8.wrap _ = _; rw [wrap_u8]; omega
  · show IntKind.u8.wrap (Int.fdiv _ 256) = _; rw [fdiv_e (by decide), wrap_u8]; omega
theorem size_there {a b c d : Int} (ha : U8 a) (hb : U8 b) (hc : U8 c) (hd : U8 d) : IntKind.u8.wrap ((le32 a b c d).fdiv 1) = a ∧ hi (le32 a b c d) = b ∧ IntKind.u8.wrap ((le32 a b c d).fdiv 65536) = c ∧ IntKind.u8.wrap ((le32 a b c d).fdiv 16777216) = d := by
  rw [le32_num ha hb hc hd]
  have h := put32_num ha hb hc hd
  have e : put32 (num4 a b c d) = [IntKind.u8.wrap ((num4 a b c d).fdiv 1), IntKind.u8.wrap ((num4 a b c d).fdiv 256), IntKind.u8.wrap ((num4 a b c d).fdiv 65536), IntKind.u8.wrap ((num4 a b c d).fdiv 16777216)] := rfl
  rw [e] at h
  injection h with e0 h
  injection h with e1 h
  injection h with e2 h
  injection h with e3 h
  exact ⟨e0, e1, e2, e3⟩
theorem eighteen {b : List Int} (h : b.length = 18) : ∃ x0 x1 x2 x3 x4 x5 x6 x7 x8 x9 y0 y1 y2 y3 y4 y5 y6 y7, b = [x0, x1, x2, x3, x4, x5, x6, x7, x8, x9, y0, y1, y2, y3, y4, y5, y6, y7] := by
  match b, h with
  | [x0, x1, x2, x3, x4, x5, x6, x7, x8, x9, y0, y1, y2, y3, y4, y5, y6, y7], _ => exact ⟨x0, x1, x2, x3, x4, x5, x6, x7, x8, x9, y0, y1, y2, y3, y4, y5, y6, y7, rfl⟩
theorem enc_dec {b : List Int} (h : b.length = 18) (hy : Bytes b) : enc18 (dec18 b) = b := by
  obtain ⟨x0, x1, x2, x3, x4, x5, x6, x7, x8, x9, y0, y1, y2, y3, y4, y5, y6, y7, rfl⟩ := eighteen h
  have B : ∀ x, x ∈ [x0, x1, x2, x3, x4, x5, x6, x7, x8, x9, y0, y1, y2, y3, y4, y5, y6, y7] → U8 x := hy
  unfold dec18 enc18
  simp only [List.getD_cons_zero, List.getD_cons_succ]
  obtain ⟨s0, s1, s2, s3⟩ := size_there (B x2 (by simp)) (B x3 (by simp)) (B x4 (by simp)) (B x5 (by simp))
  have a0 := hilo (B x6 (by simp)) (B x7 (by simp))
  have a1 := hilo (B x8 (by simp)) (B x9 (by simp))
  have a2 := hilo (B y0 (by simp)) (B y1 (by simp))
  have a3 := hilo (B y2 (by simp)) (B y3 (by simp))
  have a4 := hilo (B y4 (by simp)) (B y5 (by simp))
  have a5 := hilo (B y6 (by simp)) (B y7 (by simp))
  rw [s0, s1, s2, s3, a0.1, a0.2, a1.1, a1.2, a2.1, a2.2, a3.1, a3.2, a4.1, a4.2, a5.1, a5.2]
theorem enc_len (y : Fi.Ino9) : (enc18 y).length = 18 := rfl
theorem u8_bd (x : Int) : U8 (IntKind.u8.wrap x) := by rw [wrap_u8]; constructor <;> omega
theorem bytes_enc {y : Fi.Ino9} (hk : U8 y.k) (hl : U8 y.l) : Bytes (enc18 y) := by
  intro x hx
  unfold enc18 at hx
  simp only [List.mem_cons, List.not_mem_nil, or_false] at hx
  rcases hx with rfl | rfl | rfl | rfl | rfl | rfl | rfl | rfl | rfl | rfl | rfl | rfl | rfl | rfl | rfl | rfl | rfl | rfl <;> first | exact hk | exact hl | exact u8_bd _
theorem le16u_bd (x y : Int) : Fi.U16 (le16u x y) := by unfold le16u; rw [wrap_u16]; constructor <;> omega
theorem dec_in {b : List Int} (hy : Bytes b) : In9 (dec18 b) :=
  ⟨hy.getD 0, hy.getD 1, wrap_u32_b _, le16u_bd _ _, le16u_bd _ _, le16u_bd _ _, le16u_bd _ _, le16u_bd _ _, le16u_bd _ _⟩
/-! slots -/
theorem slot_same {p e : List Int} {o : Nat} (he : e.length = 18) (h : o + 18 ≤ p.length) : slot18 (over p o e) o = e := by
  unfold over
  show List.take 18 (List.drop o _) = e
  rw [List.append_assoc, List.drop_left' (by simp; omega), List.take_left' he]
theorem slot_other {p e : List Int} {o o' : Nat} (he : e.length = 18) (h : o + 18 ≤ p.length) (hd : o' + 18 ≤ o ∨ o + 18 ≤ o') : slot18 (over p o e) o' = slot18 p o' := by
  show List.take 18 (List.drop o' _) = List.take 18 (List.drop o' _)
  unfold over
  apply List.ext_getElem?
  intro j
  by_cases hj : j < 18
  · rw [List.getElem?_take_of_lt hj, List.getElem?_take_of_lt hj, List.getElem?_drop, List.getElem?_drop]
    rcases hd with hd | hd
    · rw [List.append_assoc, List.getElem?_append_left (by simp; omega), List.getElem?_take_of_lt (by omega)]
    · rw [List.getElem?_append_right (by simp; omega), List.getElem?_drop]
      congr 1
      simp
      omega
  · rw [List.getElem?_eq_none (by simp; omega), List.getElem?_eq_none (by simp; omega)]
theorem over_same {p : List Int} {o : Nat} (h : o + 18 ≤ p.length) : over p o (slot18 p o) = p := by
  unfold over
  have hl : (slot18 p o).length = 18 := by simp [slot18]; omega
  rw [hl]
  show p.take o ++ (p.drop o).take 18 ++ p.drop (o + 18) = p
  rw [List.append_assoc, show p.drop (o + 18) = (p.drop o).drop 18 by rw [List.drop_drop], List.take_append_drop, List.take_append_drop]
/-! the summaries -/
abbrev in9C (k l s d0 d1 d2 d3 sg db : Int) : RV := .one (.agg [.int .u8 k, .int .u8 l, .int .u32 s, .int .u16 d0, .int .u16 d1, .int .u16 d2, .int .u16 d3, .int .u16 sg, .int .u16 db])
def fAt (args : List RV) : Option (RV × List Prop) := match args with
  | [.one (.ints .u8 p 54), .one (.c (.int .i64 n))] => some (.tup [.agg (dec18 (slot18 p (18 * n.toNat))).L, .c (.int .i64 0)], [0 ≤ n ∧ n ≤ 2])
  | _ => none
theorem fAt_ok : PureOK Try.prog 66 fAt := by
  intro args v ps h hp ρ w vs ha
  unfold fAt at h
  split at h <;> try (cases h; done)
  rename_i p n
  simp only [Option.some.injEq, Prod.mk.injEq] at h
  obtain ⟨rfl, rfl⟩ := h
  obtain ⟨⟨h0, h1⟩, _⟩ := hp
  rcases (show n = 0 ∨ n = 1 ∨ n = 2 by omega) with rfl | rfl | rfl
  · rw [show 18 * Int.toNat 0 = 0 from rfl]
    exact pure_tree fit00 (by rfl) (by rfl) (.of_eq (r66a_run p _) ⟨trivial, rfl⟩) ρ w vs ha
  · rw [show 18 * Int.toNat 1 = 18 from rfl]
    exact pure_tree fit00 (by rfl) (by rfl) (.of_eq (r66b_run p _) ⟨trivial, rfl⟩) ρ w vs ha
  · rw [show 18 * Int.toNat 2 = 36 from rfl]
    exact pure_tree fit00 (by rfl) (by rfl) (.of_eq (r66c_run p _) ⟨trivial, rfl⟩) ρ w vs ha
def fWi (args : List RV) : Option (RV × List Prop) := match args with
  | [.one (.ints .u8 p 54), .one (.c (.int .i64 n)), .one (.agg [.int .u8 k, .int .u8 l, .int .u32 s, .int .u16 d0, .int .u16 d1, .int .u16 d2, .int .u16 d3, .int .u16 sg, .int .u16 db])] => some (.tup [.ints .u8 (over p (18 * n.toNat) (enc18 ⟨k, l, s, d0, d1, d2, d3, sg, db⟩)) 54, .c (.int .i64 0)], [0 ≤ n ∧ n ≤ 2])
  | _ => none
theorem over_len18 {p e : List Int} {o : Nat} (hp : p.length = 54) (he : e.length = 18) (h : o ≤ 36) : (over p o e).length = 54 := by rw [over_len (by omega)]; exact hp
theorem fWi_ok : PureOK Try.prog 88 fWi := by
  intro args v ps h hp ρ w vs ha
  unfold fWi at h
  split at h <;> try (cases h; done)
  rename_i p n k l s d0 d1 d2 d3 sg db
  simp only [Option.some.injEq, Prod.mk.injEq] at h
  obtain ⟨rfl, rfl⟩ := h
  obtain ⟨⟨h0, h1⟩, _⟩ := hp
  have hpl : p.length = 54 := by obtain ⟨_, _, h, _⟩ := ha; exact h.1
  have e : ∀ o, o ≤ 36 → t54 (over z54 0 (t54 (over p o (enc18 ⟨k, l, s, d0, d1, d2, d3, sg, db⟩)))) = over p o (enc18 ⟨k, l, s, d0, d1, d2, d3, sg, db⟩) := fun o ho => by
    have hl := over_len18 hpl (enc_len ⟨k, l, s, d0, d1, d2, d3, sg, db⟩) ho
    rw [show t54 (over p o (enc18 ⟨k, l, s, d0, d1, d2, d3, sg, db⟩)) = _ from take_all hl, over_z54 hl, show t54 (over p o (enc18 ⟨k, l, s, d0, d1, d2, d3, sg, db⟩)) = _ from take_all hl]
  rcases (show n = 0 ∨ n = 1 ∨ n = 2 by omega) with rfl | rfl | rfl
  · rw [show 18 * Int.toNat 0 = 0 from rfl]
    have hr := r88a_run p k l s d0 d1 d2 d3 sg db
    rw [e 0 (by omega)] at hr
    exact pure_path fit00 (by rfl) (by rfl) hr trivial ρ w vs ha
  · rw [show 18 * Int.toNat 1 = 18 from rfl]
    have hr := r88b_run p k l s d0 d1 d2 d3 sg db
    rw [e 18 (by omega)] at hr
    exact pure_path fit00 (by rfl) (by rfl) hr trivial ρ w vs ha
  · rw [show 18 * Int.toNat 2 = 36 from rfl]
    have hr := r88c_run p k l s d0 d1 d2 d3 sg db
    rw [e 36 (by omega)] at hr
    exact pure_path fit00 (by rfl) (by rfl) hr trivial ρ w vs ha
end Go.Sx

namespace Go.Sx
open Go.Proofs Go.RowKit
set_option maxRecDepth 100000
/-! ### what reads an image, as a summary -/
noncomputable def sumRd (G : List RV → Int → Int → Int → List Int → Nat → Int → Option (RV × List Prop)) : SumA := fun args hp nx => match args with
  | .one (.c (.ptr nm 0)) :: xs => match imgArg hp.get nm with
    | some (a, b, c, L, N, n, sc, _, _, _, _) => match G xs a b c L n sc with
      | some (v, ps) => some (v, hp, nx, [], (L.length = N) :: (N = 64 * n) :: ps)
      | none => none
    | none => none
  | _ => none
theorem sumRd_ok {f : FuncId} (hfn : ∃ fn, Try.prog.funcs[f]? = some fn ∧ fn.body.isNone = false) {G : List RV → Int → Int → Int → List Int → Nat → Int → Option (RV × List Prop)}
    (hx : ∀ xs a b c L n sc v ps, G xs a b c L n sc = some (v, ps) → xs.all flatR = true ∧ flatR v = true)
    (hG : ∀ xs a b c L n sc v ps, G xs a b c L n sc = some (v, ps) → All ps → L.length = 64 * n → ∀ (t0 : TypeId) (op : Option Nat) (t1 : TypeId) (out : Int) (ρ : Rho) (w : World) (vs : List Value), HRel ρ (imgS t0 op t1 a b c L (64 * n) n sc out).get w → Fresh ρ 3 → ArgsR ρ (.one (.c (.ptr 0 0)) :: xs) vs →
      Calls Try.prog f vs.toArray w fun e w' => ∃ V ρ' hp' nx' L', e = .returned V ∧ RVR ρ' v V ∧ Stp ρ (imgS t0 op t1 a b c L (64 * n) n sc out).get 3 w ρ' hp' nx' w' L') : SumAOK Try.prog f (sumRd G) := by
  intro args s v hp nx lg ps ht h hps
  unfold sumRd at h
  split at h <;> try (cases h; done)
  rename_i nm xs
  split at h <;> try (cases h; done)
  rename_i a b c L N n sc out t0 op t1 hi
  split at h <;> try (cases h; done)
  rename_i v1 ps1 hg
  simp only [Option.some.injEq, Prod.mk.injEq] at h
  obtain ⟨rfl, rfl, rfl, rfl, rfl⟩ := h
  obtain ⟨hl, hN, hps⟩ := hps
  subst hN
  obtain ⟨hfx, hfv⟩ := hx _ _ _ _ _ _ _ _ _ hg
  obtain ⟨θ, e0, hin⟩ := imgArg_ok hi
  have ex : xs.map (renR θ) = xs := (List.map_congr_left fun c hc => renR_flat (List.all_eq_true.1 hfx c hc)).trans (List.map_id xs)
  have ea : ((.one (.c (.ptr 0 0)) : RV) :: xs).map (renR θ) = .one (.c (.ptr nm 0)) :: xs := by
    rw [List.map_cons, ex]; simp [renR, renA, renC, e0]
  have := CallInfo.small (P := Try.prog) (f := f) (args := .one (.c (.ptr 0 0)) :: xs) (v := v1) (k := 3) (hs := imgS t0 op t1 a b c L (64 * n) n sc out) (θ := θ) (s := s) ht hfn (hG _ _ _ _ _ _ _ _ _ hg hps hl t0 op t1 out) hin
    (List.all_eq_true.2 fun c hc => by
      rcases List.mem_cons.1 hc with rfl | hc
      · rfl
      · exact inR_flat (List.all_eq_true.1 hfx c hc)) hfv
  rw [ea] at this
  exact this
/-! ### an inode of an image: f36 -/
noncomputable def sgJ3 : FuncId → Option SumA := fun f => match f with | 62 => some (pureSum fIno) | 26 => some sumLd | 66 => some (pureSum fAt) | _ => none
theorem fitJ3 : Fit Try.prog (fun f => (sgJ3 f).map toSum) := ⟨fit_ng, fit_mixed, SumAOK.sum fun f sm h => by
  unfold sgJ3 at h
  split at h
  · cases h; exact fIno62.sum ⟨_, Try.func62, rfl⟩
  · cases h; exact sumLd_ok
  · cases h; exact fAt_ok.sum ⟨_, Try.func66, rfl⟩
  · cases h⟩
noncomputable def r36 (t0 : TypeId) (op : Option Nat) (t1 : TypeId) (a b c : Int) (L : List Int) (N n : Nat) (sc out i : Int) (Q : RV → Prop) : Option Prop := runA Try.prog sgJ3 300 36 [.one (.c (.ptr 0 0)), .one (.c (.int .i64 i))] ⟨.nil, imgS t0 op t1 a b c L N n sc out, 3, []⟩ αT fun v _ α => some (All α.ob ∧ Q v)
theorem r36_run (t0 : TypeId) (op : Option Nat) (t1 : TypeId) (a b c : Int) (L : List Int) (N n : Nat) (sc out i : Int) (Q : RV → Prop) : r36 t0 op t1 a b c L N n sc out i Q =
 (bif (if inoB a b c i = true then (0 : Int) else 2) != 0 then some (All [] ∧ Q (.tup [.agg Fi.Ino9.zero.L, .c (.bool false)]))
  else bif !ldOk L n (sel (inoB a b c i) (inoP b c i).1) 4 then some (All [L.length = N, N = 64 * n] ∧ Q (.tup [.agg Fi.Ino9.zero.L, .c (.bool false)]))
  else some (All [0 ≤ sel (inoB a b c i) (inoP b c i).2.1 ∧ sel (inoB a b c i) (inoP b c i).2.1 ≤ 2, L.length = N, N = 64 * n] ∧ Q (.tup [.agg (dec18 (slot18 (t54 (over z54 0 (t54 (over z54 0 (t54 (over z54 0 (ldP L n (sel (inoB a b c i) (inoP b c i).1) 4))))))) (18 * (sel (inoB a b c i) (inoP b c i).2.1).toNat))).L, .c (.bool true)]))) := by kernel_rfl
noncomputable def inoOk (a b c : Int) (L : List Int) (n : Nat) (i : Int) : Bool := inoB a b c i && ldOk L n (inoP b c i).1 4
noncomputable def inoV (b c : Int) (L : List Int) (n : Nat) (i : Int) : Fi.Ino9 := dec18 (slot18 (ldP L n (inoP b c i).1 4) (18 * (inoP b c i).2.1.toNat))
noncomputable def inoG (a b c : Int) (L : List Int) (n : Nat) (i : Int) : Fi.Ino9 := if inoOk a b c L n i then inoV b c L n i else .zero
noncomputable def g36 : List RV → Int → Int → Int → List Int → Nat → Int → Option (RV × List Prop) := fun xs a b c L n _ => match xs with
  | [.one (.c (.int .i64 i))] => some (.tup [.agg (inoG a b c L n i).L, .c (.bool (inoOk a b c L n i))], [])
  | _ => none
theorem ldP_len {L : List Int} {n : Nat} {s k : Int} (hl : L.length = 64 * n) : (ldP L n s k).length = 54 := by
  unfold ldP
  cases hs : hasS n s with
  | false => rfl
  | true =>
    rw [if_pos rfl]
    obtain ⟨h1, h2⟩ := hasS_iff.1 hs
    exact getP_len (blkAt_len (by omega))
theorem inoSlot (b c i : Int) : 0 ≤ (inoP b c i).2.1 ∧ (inoP b c i).2.1 ≤ 2 := by unfold inoP; constructor <;> (simp only; omega)
theorem sum36 : SumAOK Try.prog 36 (sumRd g36) := by
  refine sumRd_ok ⟨_, Try.func36, rfl⟩ (fun xs a b c L n sc v ps h => ?_) fun xs a b c L n sc v ps h hps hl t0 op t1 out => ?_
  · unfold g36 at h
    split at h <;> try (cases h; done)
    simp only [Option.some.injEq, Prod.mk.injEq] at h
    obtain ⟨rfl, rfl⟩ := h
    exact ⟨rfl, rfl⟩
  · unfold g36 at h
    split at h <;> try (cases h; done)
    rename_i i
    simp only [Option.some.injEq, Prod.mk.injEq] at h
    obtain ⟨rfl, rfl⟩ := h
    refine small_tree fitJ3 top_two (.of_eq (r36_run t0 op t1 a b c L (64 * n) n sc out i _) ?_)
    unfold inoG inoOk
    cases hB : inoB a b c i with
    | false => exact .yes (by simp) ⟨trivial, rfl⟩
    | true =>
      refine .no (by simp) ?_
      show Okp (bif !ldOk L n (inoP b c i).1 4 then _ else _)
      cases hL : ldOk L n (inoP b c i).1 4 with
      | false => exact .yes rfl ⟨⟨hl, rfl, trivial⟩, rfl⟩
      | true =>
        refine .no rfl ⟨⟨inoSlot b c i, hl, rfl, trivial⟩, ?_⟩
        have hp : (ldP L n (inoP b c i).1 4).length = 54 := ldP_len hl
        show RV.tup [.agg (dec18 (slot18 (t54 (over z54 0 (t54 (over z54 0 (t54 (over z54 0 (ldP L n (inoP b c i).1 4))))))) (18 * (inoP b c i).2.1.toNat))).L, .c (.bool true)] = _
        rw [over_z54 hp, show t54 (ldP L n (inoP b c i).1 4) = _ from take_all hp, over_z54 hp, show t54 (ldP L n (inoP b c i).1 4) = _ from take_all hp, over_z54 hp, show t54 (ldP L n (inoP b c i).1 4) = _ from take_all hp]
        rfl
/-! ### .. and written: f63 -/
noncomputable def sgJ4 : FuncId → Option SumA := fun f => match f with | 62 => some (pureSum fIno) | 26 => some sumLd | 88 => some (pureSum fWi) | 25 => some sumWr | _ => none
theorem fitJ4 : Fit Try.prog (fun f => (sgJ4 f).map toSum) := ⟨fit_ng, fit_mixed, SumAOK.sum fun f sm h => by
  unfold sgJ4 at h
  split at h
  · cases h; exact fIno62.sum ⟨_, Try.func62, rfl⟩
  · cases h; exact sumLd_ok
  · cases h; exact fWi_ok.sum ⟨_, Try.func88, rfl⟩
  · cases h; exact sumWr_ok
  · cases h⟩
noncomputable def c63 : Code := gB 63
noncomputable def args63 (i k l s d0 d1 d2 d3 sg db : Int) : List RV := [.one (.c (.ptr 0 0)), .one (.c (.int .i64 i)), .one (.agg [.int .u8 k, .int .u8 l, .int .u32 s, .int .u16 d0, .int .u16 d1, .int .u16 d2, .int .u16 d3, .int .u16 sg, .int .u16 db])]
noncomputable def sl63 (i k l s d0 d1 d2 d3 sg db : Int) : T RV := match setArgs 32 (args63 i k l s d0 d1 d2 d3 sg db) 0 .nil some with | some t => t | none => .nil
theorem sl63_ok (i k l s d0 d1 d2 d3 sg db : Int) : setArgs 32 (args63 i k l s d0 d1 d2 d3 sg db) 0 .nil some = some (sl63 i k l s d0 d1 d2 d3 sg db) := by kernel_rfl
noncomputable def r63 (a b c : Int) (L : List Int) (n : Nat) (sc out : Int) (lm : List (Int × Int)) (i k l s d0 d1 d2 d3 sg db : Int) (Q : X → Option (List AV) → T Blk → Nat → Prop) : Option Prop :=
  execA Try.prog sgJ4 300 32 c63 ⟨sl63 i k l s d0 d1 d2 d3 sg db, imgW a b c L n sc out lm, 3, []⟩ αT (fun x s α => some (All α.ob ∧ (Nat.ble 3 s.nx = true ∧ Q x (resOf Try.prog 32 (low 32 3 (fgt [6] 32 s)) Try.f63.results.toList) (low 32 3 (fgt [6] 32 s)).hp (low 32 3 (fgt [6] 32 s)).nx)))
end Go.Sx
