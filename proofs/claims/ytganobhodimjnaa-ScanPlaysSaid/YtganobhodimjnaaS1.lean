/-
  Parts of the executor Sx over the model's code (any program), or of this seat's walks: words and proofs that the row's text uses.
-/
import Derived.Test.YtganobhodimjnaaR21
import Derived.Test.YtganobhodimjnaaSxT
namespace Go.Sx
open Go.Proofs Go.RowKit
set_option maxRecDepth 100000
/-! ### Few f14, slices.Clone f44 over a row of sectors -/
noncomputable def c14 : Code := gB 14
noncomputable def sl14 (cl : Cell) : T RV := match setArgs 10 [.one (.c cl)] 0 .nil some with | some t => t | none => .nil
theorem sl14_ok (cl : Cell) : setArgs 10 [.one (.c cl)] 0 .nil some = some (sl14 cl) := by kernel_rfl
noncomputable def q14w (off n cap : Nat) (L : List Int) (Q : X → S → Prop) : Option Prop := execA Try.prog (fun _ => none) 300 10 c14 ⟨sl14 (.sl 0 off n cap), ofL [(0, .win off .u8 L)], 1, []⟩ αT (gcQ 1 [] [] [2] 10 [2] Q)
noncomputable def q14r (op : Option Nat) (n N : Nat) (L : List Int) (Q : X → S → Prop) : Option Prop := execA Try.prog (fun _ => none) 300 10 c14 ⟨sl14 (.slu 0 64 0 n), ofL [(0, .row 49 true op (.ints .u8 L N))], 1, []⟩ αT (gcQ 1 [] [] [2] 10 [2] Q)
noncomputable def c44 : Code := gB 44
noncomputable def sl44 (cl : Cell) : T RV := match setArgs 8 [.one (.c cl)] 0 .nil some with | some t => t | none => .nil
theorem sl44_ok (cl : Cell) : setArgs 8 [.one (.c cl)] 0 .nil some = some (sl44 cl) := by kernel_rfl
noncomputable def q44 (op : Option Nat) (n N : Nat) (L : List Int) (Q : X → S → Prop) : Option Prop := execA Try.prog (fun _ => none) 300 8 c44 ⟨sl44 (.slu 0 64 0 n), ofL [(0, .row 49 true op (.ints .u8 L N))], 1, []⟩ αT (gcQ 1 [] [] [2] 8 [2] Q)
end Go.Sx

namespace Go.Sx
open Go.Proofs Go.RowKit
set_option maxRecDepth 100000
noncomputable abbrev q14w_x0 (n : Nat) : Int := if 140 < (↑n : Int) then 140 else (↑n : Int)
noncomputable abbrev q14w_x1 (off : Nat) (cap : Nat) : Nat := if cap = 0 then off else off + 0
noncomputable abbrev q14w_x2 (off : Nat) (cap : Nat) : Nat := (q14w_x1 off cap) - off
noncomputable abbrev q14w_x3 (n : Nat) : Nat := (q14w_x0 n).toNat - 0
noncomputable abbrev q14w_x4 (n : Nat) : Nat := (q14w_x3 n) * 64
noncomputable abbrev q14w_x5 (off : Nat) (n : Nat) (cap : Nat) : Nat := (q14w_x2 off cap) + (q14w_x4 n)
noncomputable abbrev q14w_x6 (n : Nat) : Nat := 0 + (q14w_x3 n)
noncomputable abbrev q14w_x7 (n : Nat) : Bool := fits Try.prog.types[49] (q14w_x6 n)
noncomputable def q14w_t (off : Nat) (n : Nat) (cap : Nat) (L : List Int) (Q : X → S → Prop) : Option Prop :=
 (bif decide (0 ≤ (q14w_x0 n) ∧ (q14w_x0 n) ≤ (↑cap : Int)) then (
  (bif decide (off ≤ (q14w_x1 off cap) ∧ (q14w_x5 off n cap) ≤ L.length) then (
   (bif (q14w_x3 n).beq 0 then (
    none
    ) else (
    (bif decide (0 < (q14w_x6 n) ∧ (q14w_x7 n) = true) then (
     some ((All [] ∧ ((true = true) ∧ Q (X.ret) {
  sl :=
    (((T.nil.node (some RV.any) T.nil).node (some RV.any) T.nil).node (some RV.any)
          ((T.nil.node (some RV.any) T.nil).node (some RV.any) T.nil)).node
      (some RV.any)
      (((T.nil.node (some RV.any) T.nil).node (some RV.any) T.nil).node
        (some (RV.one (AV.c (Cell.slu 1 64 0 (q14w_x6 n))))) (T.nil.node (some RV.any) T.nil)),
  hp :=
    (T.nil.node
          (some
            (Blk.row 49 false (some 64)
              (Body.ints IntKind.u8
                (List.take 0 (List.drop 0 (repl z64 0)) ++ List.take (q14w_x4 n) (List.drop (q14w_x2 off cap) L))
                (0 + (q14w_x4 n)))))
          T.nil).node
      (some (Blk.win off IntKind.u8 L)) T.nil,
  nx := 2, lg := [] })))
     ) else none)
    ))
   ) else none)
  ) else none)
theorem q14w_tree (off : Nat) (n : Nat) (cap : Nat) (L : List Int) (Q : X → S → Prop) : q14w off n cap L Q = q14w_t off n cap L Q := by kernel_rfl
noncomputable abbrev q14r_x0 (n : Nat) : Int := if 140 < (↑n : Int) then 140 else (↑n : Int)
noncomputable abbrev q14r_x1 (n : Nat) : Nat := (q14r_x0 n).toNat - 0
noncomputable abbrev q14r_x2 (n : Nat) : Nat := (q14r_x1 n) * 64
noncomputable abbrev q14r_x3 (n : Nat) : Nat := 0 + (q14r_x2 n)
noncomputable abbrev q14r_x4 (n : Nat) : Nat := 0 + (q14r_x1 n)
noncomputable abbrev q14r_x5 (n : Nat) : Bool := fits Try.prog.types[49] (q14r_x4 n)
noncomputable def q14r_t (op : Option Nat) (n : Nat) (N : Nat) (L : List Int) (Q : X → S → Prop) : Option Prop :=
 (bif decide (0 ≤ (q14r_x0 n) ∧ (q14r_x0 n) ≤ (↑n : Int)) then (
  (bif decide ((q14r_x1 n) ≠ 0) then (
   (bif decide ((q14r_x3 n) ≤ N) then (
    (bif (q14r_x1 n).beq 0 then (
     none
     ) else (
     (bif decide (0 < (q14r_x4 n) ∧ (q14r_x5 n) = true) then (
      some ((All [] ∧ ((true = true) ∧ Q (X.ret) {
  sl :=
    (((T.nil.node (some RV.any) T.nil).node (some RV.any) T.nil).node (some RV.any)
          ((T.nil.node (some RV.any) T.nil).node (some RV.any) T.nil)).node
      (some RV.any)
      (((T.nil.node (some RV.any) T.nil).node (some RV.any) T.nil).node
        (some (RV.one (AV.c (Cell.slu 1 64 0 (q14r_x4 n))))) (T.nil.node (some RV.any) T.nil)),
  hp :=
    (T.nil.node
          (some
            (Blk.row 49 false (some 64)
              (Body.ints IntKind.u8
                (List.take 0 (List.drop 0 (repl z64 0)) ++ List.take (q14r_x2 n) (List.drop 0 L)) (q14r_x3 n))))
          T.nil).node
      (some (Blk.row 49 true op (Body.ints IntKind.u8 L N))) T.nil,
  nx := 2, lg := [] })))
      ) else none)
     ))
    ) else none)
   ) else none)
  ) else none)
theorem q14r_tree (op : Option Nat) (n : Nat) (N : Nat) (L : List Int) (Q : X → S → Prop) : q14r op n N L Q = q14r_t op n N L Q := by kernel_rfl
noncomputable abbrev q44_x0 (n : Nat) : Nat := n * 64
noncomputable abbrev q44_x1 (n : Nat) : Nat := 0 + (q44_x0 n)
noncomputable abbrev q44_x2 (n : Nat) : Nat := 0 + n
noncomputable abbrev q44_x3 (n : Nat) : Bool := fits Try.prog.types[49] (q44_x2 n)
noncomputable def q44_t (op : Option Nat) (n : Nat) (N : Nat) (L : List Int) (Q : X → S → Prop) : Option Prop :=
 (bif decide (n ≠ 0) then (
  (bif decide ((q44_x1 n) ≤ N) then (
   (bif n.beq 0 then (
    none
    ) else (
    (bif decide (0 < (q44_x2 n) ∧ (q44_x3 n) = true) then (
     some ((All [] ∧ ((true = true) ∧ Q (X.ret) {
  sl :=
    (((T.nil.node (some RV.any) T.nil).node (some RV.any) T.nil).node (some RV.any)
          (T.nil.node (some RV.any) T.nil)).node
      (some RV.any)
      ((T.nil.node (some RV.any) T.nil).node (some (RV.one (AV.c (Cell.slu 1 64 0 (q44_x2 n)))))
        (T.nil.node (some RV.any) T.nil)),
  hp :=
    (T.nil.node
          (some
            (Blk.row 49 false (some 64)
              (Body.ints IntKind.u8 (List.take 0 (List.drop 0 (repl z64 0)) ++ List.take (q44_x0 n) (List.drop 0 L))
                (q44_x1 n))))
          T.nil).node
      (some (Blk.row 49 true op (Body.ints IntKind.u8 L N))) T.nil,
  nx := 2, lg := [] })))
     ) else none)
    ))
   ) else none)
  ) else none)
theorem q44_tree (op : Option Nat) (n : Nat) (N : Nat) (L : List Int) (Q : X → S → Prop) : q44 op n N L Q = q44_t op n N L Q := by kernel_rfl

theorem body14_eq : Try.f14.body = some c14 := by kernel_rfl
theorem body44_eq : Try.f44.body = some c44 := by kernel_rfl
def few (n : Nat) : Nat := min n 140
theorem few_le (n : Nat) : few n ≤ 140 ∧ few n ≤ n := by unfold few; omega
theorem few_ne {n : Nat} (h : n ≠ 0) : few n ≠ 0 := by unfold few; omega
theorem few_few {n : Nat} (h : n ≤ 140) : few n = n := by unfold few; omega
theorem top1 (x : Blk) : Top ⟨.nil, ofL [(0, x)], 1, []⟩ := fun i hi => by
  have hi' : 1 ≤ i := hi
  show (ofL [(0, x)] : T Blk).get i = none
  cases h : (ofL [(0, x)] : T Blk).get i with
  | none => rfl
  | some y => obtain ⟨rfl, _⟩ := one_get h; omega
theorem cl_eq {X : List Int} {k : Nat} : List.take 0 (List.drop 0 (repl z64 0)) ++ List.take (k * 64) X = X.take (64 * k) := by
  show [] ++ List.take (k * 64) X = _
  rw [List.nil_append, Nat.mul_comm]
section
variable {off n cap N : Nat} {L : List Int} {op : Option Nat}
noncomputable abbrev sec2 (x : Blk) (L : List Int) (k : Nat) : T Blk := ofL [(0, x), (1, .row 49 false (some 64) (.ints .u8 (L.take (64 * k)) (64 * k)))]
theorem small14w (hL : L.length = 64 * n) (hc : n ≤ cap) (hn : n ≠ 0) : SmallN Try.prog 14 [.one (.c (.sl 0 off n cap))] 1 (ofL [(0, .win off .u8 L)]) 2 (sec2 (.win off .u8 L) L (few n)) (.one (.c (.slu 1 64 0 (few n)))) := by
  have hk := few_le n
  have hk0 := few_ne hn
  refine TO.smallN (fn := Try.f14) (c := c14) Try.func14 body14_eq [] (top1 _) (sl14_ok _) (TO.tree fit00 (k0 := 1) (keep := [2]) (ord := [2]) rfl (.of_eq (q14w_tree ..) ?_))
  unfold q14w_t
  have x0 : q14w_x0 n = (few n : Int) := by show (if (140 : Int) < (n : Int) then (140 : Int) else (n : Int)) = _; unfold few; split <;> omega
  have x1 : q14w_x1 off cap = off := by show (if cap = 0 then off else off + 0) = off; split <;> rfl
  have x2 : q14w_x2 off cap = 0 := by show q14w_x1 off cap - off = 0; rw [x1]; omega
  have x3 : q14w_x3 n = few n := by show (q14w_x0 n).toNat - 0 = _; rw [x0]; simp
  have x4 : q14w_x4 n = few n * 64 := by show q14w_x3 n * 64 = _; rw [x3]
  have x5 : q14w_x5 off n cap = few n * 64 := by show q14w_x2 off cap + q14w_x4 n = _; rw [x2, x4]; omega
  have x6 : q14w_x6 n = few n := by show 0 + q14w_x3 n = _; rw [x3]; omega
  have x7 : q14w_x7 n = true := by show fits Try.prog.types[49]! (q14w_x6 n) = true; rw [x6]; exact fits49 (by omega)
  rw [x0, x1, x3, x4, x5, x6, x7, x2]
  refine .chk (by simp; omega) (.chk (by simp; omega) (.no (beq0 (by omega)) (.chk (by simp; omega) ⟨trivial, rfl, .inr rfl, [.c (.slu 1 64 0 (few n))], rfl, rfl, ?_, rfl⟩)))
  rw [sec2, two_eq, cl_eq, List.drop_zero, Nat.zero_add, Nat.mul_comm (few n) 64]
theorem small14r (hL : L.length = N) (hN : N = 64 * n) (hn : n ≠ 0) : SmallN Try.prog 14 [.one (.c (.slu 0 64 0 n))] 1 (ofL [(0, .row 49 true op (.ints .u8 L N))]) 2 (sec2 (.row 49 true op (.ints .u8 L N)) L (few n)) (.one (.c (.slu 1 64 0 (few n)))) := by
  have hk := few_le n
  have hk0 := few_ne hn
  refine TO.smallN (fn := Try.f14) (c := c14) Try.func14 body14_eq [] (top1 _) (sl14_ok _) (TO.tree fit00 (k0 := 1) (keep := [2]) (ord := [2]) rfl (.of_eq (q14r_tree ..) ?_))
  unfold q14r_t
  have x0 : q14r_x0 n = (few n : Int) := by show (if (140 : Int) < (n : Int) then (140 : Int) else (n : Int)) = _; unfold few; split <;> omega
  have x1 : q14r_x1 n = few n := by show (q14r_x0 n).toNat - 0 = _; rw [x0]; simp
  have x2 : q14r_x2 n = few n * 64 := by show q14r_x1 n * 64 = _; rw [x1]
  have x3 : q14r_x3 n = few n * 64 := by show 0 + q14r_x2 n = _; rw [x2]; omega
  have x4 : q14r_x4 n = few n := by show 0 + q14r_x1 n = _; rw [x1]; omega
  have x5 : q14r_x5 n = true := by show fits Try.prog.types[49]! (q14r_x4 n) = true; rw [x4]; exact fits49 (by omega)
  rw [x0, x1, x2, x3, x4, x5]
  refine .chk (by simp; omega) (.chk (by simp; omega) (.chk (by simp; omega) (.no (beq0 (by omega)) (.chk (by simp; omega) ⟨trivial, rfl, .inr rfl, [.c (.slu 1 64 0 (few n))], rfl, rfl, ?_, rfl⟩))))
  rw [sec2, two_eq, cl_eq, List.drop_zero, Nat.mul_comm (few n) 64]
theorem small44 (hL : L.length = N) (hN : N = 64 * n) (hn : n ≠ 0) (h140 : n ≤ 140) : SmallN Try.prog 44 [.one (.c (.slu 0 64 0 n))] 1 (ofL [(0, .row 49 true op (.ints .u8 L N))]) 2 (sec2 (.row 49 true op (.ints .u8 L N)) L n) (.one (.c (.slu 1 64 0 n))) := by
  refine TO.smallN (fn := Try.f44) (c := c44) Try.func44 body44_eq [] (top1 _) (sl44_ok _) (TO.tree fit00 (k0 := 1) (keep := [2]) (ord := [2]) rfl (.of_eq (q44_tree ..) ?_))
  unfold q44_t
  have x0 : q44_x0 n = n * 64 := rfl
  have x1 : q44_x1 n = n * 64 := by show 0 + q44_x0 n = _; rw [x0]; omega
  have x2 : q44_x2 n = n := by show 0 + n = _; omega
  have x3 : q44_x3 n = true := by show fits Try.prog.types[49]! (q44_x2 n) = true; rw [x2]; exact fits49 (by omega)
  rw [x1, x2, x3, x0]
  refine .chk (by simp; omega) (.chk (by simp; omega) (.no (beq0 (by omega)) (.chk (by simp; omega) ⟨trivial, rfl, .inr rfl, [.c (.slu 1 64 0 n)], rfl, rfl, ?_, rfl⟩)))
  rw [sec2, two_eq, cl_eq, List.drop_zero, Nat.mul_comm n 64]
end
/-! ### .. as summaries -/
noncomputable def newSec (nx : Nat) (hp : T Blk) (X : List Int) (k : Nat) (ps : List Prop) : Option (RV × T Blk × Nat × List Nat × List Prop) :=
  T.set depth hp nx (some (.row 49 false (some 64) (.ints .u8 X (64 * k)))) fun hp => some (.one (.c (.slu nx 64 0 k)), hp, nx + 1, [], ps)
noncomputable def sumFew : SumA := fun args hp nx => match args with
  | [.one (.c (.sl nm off n cap))] => match hp.get nm with
    | some (.win o .u8 L) => newSec nx hp (L.take (64 * few n)) (few n) [off = o, L.length = 64 * n, n ≤ cap, n ≠ 0]
    | _ => none
  | [.one (.c (.slu nm 64 0 n))] => match getRow hp.get nm with
    | some (49, _, _, .ints .u8 L N) => newSec nx hp L n [L.length = N, N = 64 * n, n ≠ 0, n ≤ 140]
    | _ => none
  | _ => none
noncomputable def sumClone : SumA := fun args hp nx => match args with
  | [.one (.c (.slu nm 64 0 n))] => match getRow hp.get nm with
    | some (49, _, _, .ints .u8 L N) => newSec nx hp L n [L.length = N, N = 64 * n, n ≠ 0, n ≤ 140]
    | _ => none
  | _ => none
theorem newSec_ok {nx : Nat} {hp : T Blk} {L : List Int} {k : Nat} {ps0 : List Prop} {v : RV} {hp' : T Blk} {nx' : Nat} {lg : List Nat} {ps : List Prop} (h : newSec nx hp L k ps0 = some (v, hp', nx', lg, ps)) :
    v = .one (.c (.slu nx 64 0 k)) ∧ nx' = nx + 1 ∧ lg = [] ∧ ps = ps0 ∧ ∀ i, hp'.get i = if i = nx then some (.row 49 false (some 64) (.ints .u8 L (64 * k))) else hp.get i := by
  unfold newSec at h
  obtain ⟨t', h, q⟩ := T.set_ok _ _ _ _ _ _ h
  simp only [Option.some.injEq, Prod.mk.injEq] at h
  obtain ⟨rfl, rfl, rfl, rfl, rfl⟩ := h
  exact ⟨rfl, rfl, rfl, rfl, q⟩
theorem sumFew_ok : SumAOK Try.prog 14 sumFew := by
  intro args s v hp nx lg ps ht h hps
  unfold sumFew at h
  split at h <;> try (cases h; done)
  · rename_i nm off n cap
    split at h <;> try (cases h; done)
    rename_i o L hz
    obtain ⟨rfl, rfl, rfl, rfl, q⟩ := newSec_ok h
    obtain ⟨rfl, h1, h2, h3, _⟩ := hps
    exact CallInfo.newOne (z := .win off .u8 L) ht ⟨_, Try.func14, rfl⟩ (small14w h1 h2 h3) (by rfl) hz RoOf.win q
  · rename_i nm n
    split at h <;> try (cases h; done)
    rename_i ro op L N hz
    obtain ⟨rfl, rfl, rfl, rfl, q⟩ := newSec_ok h
    obtain ⟨h1, h2, h3, h4, _⟩ := hps
    have := small14r (op := op) h1 h2 h3
    rw [few_few h4, sec2, List.take_of_length_le (by omega)] at this
    exact CallInfo.newOne ht ⟨_, Try.func14, rfl⟩ this (by rfl) (getRow_some hz) RoOf.ints q
theorem sumClone_ok : SumAOK Try.prog 44 sumClone := by
  intro args s v hp nx lg ps ht h hps
  unfold sumClone at h
  split at h <;> try (cases h; done)
  rename_i nm n
  split at h <;> try (cases h; done)
  rename_i ro op L N hz
  obtain ⟨rfl, rfl, rfl, rfl, q⟩ := newSec_ok h
  obtain ⟨h1, h2, h3, h4, _⟩ := hps
  have := small44 (op := op) h1 h2 h3 h4
  rw [sec2, List.take_of_length_le (by omega)] at this
  exact CallInfo.newOne ht ⟨_, Try.func44, rfl⟩ this (by rfl) (getRow_some hz) RoOf.ints q
end Go.Sx

namespace Go.Sx
open Go.Proofs Go.RowKit
set_option maxRecDepth 100000
/-! ### ScanPlays: law f6 -/
noncomputable def sg6n : FuncId → Option SumA := fun f => match f with
  | 13 => some (pureSum fYes) | 14 => some sumFew | 44 => some sumClone | 20 => some sumIn | 16 => some sumRun | 25 => some sumWr | 26 => some sumLd | 28 => some (sumRdR g28) | 29 => some sumWrF | 30 => some sum30 | 31 => some sum31 | 32 => some sumInR | 43 => some sumFind2 | 56 => some sumFindR | _ => none
theorem fit6 : Fit Try.prog (fun f => (sg6n f).map toSum) := ⟨fit_ng, fit_mixed, SumAOK.sum fun f sm h => by
  unfold sg6n at h
  split at h
  · cases h; exact fYes_ok works27
  · cases h; exact sumFew_ok
  · cases h; exact sumClone_ok
  · cases h; exact sumIn_ok
  · cases h; exact sumRun_ok
  · cases h; exact sumWr_ok
  · cases h; exact sumLd_ok
  · cases h; exact sum28
  · cases h; exact sumWrF_ok
  · cases h; exact sum30_ok
  · cases h; exact sum31_ok
  · cases h; exact sumInR_ok
  · cases h; exact sumFind2_ok
  · cases h; exact sumFindR_ok
  · cases h⟩
noncomputable def args6 (cl : Cell) (sc : Int) (av : RV) (g : Int) : List RV := [.one (.c cl), .one (.c (.int .u32 sc)), av, .one (.c (.int .i64 g))]
noncomputable def sl6 (cl : Cell) (sc : Int) (av : RV) (g : Int) : T RV := match setArgs 131 (args6 cl sc av g) 0 .nil some with | some t => t | none => .nil
theorem sl6_ok (cl : Cell) (sc : Int) (av : RV) (g : Int) : setArgs 131 (args6 cl sc av g) 0 .nil some = some (sl6 cl sc av g) := by kernel_rfl
noncomputable def s60 (cl : Cell) (sc : Int) (av : RV) (g : Int) (x0 x1 : Blk) : S := ⟨sl6 cl sc av g, ofL [(0, x0), (1, x1)], 2, []⟩
noncomputable def pre6 (n off cap : Nat) (sc : Int) (av : RV) (g : Int) (L : List Int) (x1 : Blk) (M : S → Prop) (R : X → Option (List AV) → Prop) : Option Prop :=
  execN Try.prog sg6n 300 131 6 c6 (s60 (.sl 0 off n cap) sc av g (.win off .u8 L) x1) αT (fun x s α => some (All α.ob ∧ match x with | .normal => M (fgt [2, 3, 9, 11] 131 s) | x => R x (resOf Try.prog 131 s Try.f6.results.toList)))
end Go.Sx

namespace Go.Sx
open Go.Proofs Go.RowKit
set_option maxRecDepth 100000
section
variable (off : Nat) (G : List Int) (oA nA cA : Nat) (A F : List Int) (n : Nat) (a b c sc : Int) (L : List Int) (l : List (Int × Int)) (W : List Bool) (out g i : Int) (av : RV) (mp x1 : Blk) (L' : List Int) (out' : Int)
abbrev geB (a b c : Int) : Blk := .row 23 false none (.cells [.int .i64 a, .int .i64 b, .int .i64 c])
abbrev scB (F : List Int) (n : Nat) : Blk := .row 49 false (some 64) (.ints .u8 F (64 * n))
abbrev imX (a b c sc : Int) (n : Nat) (out : Int) (nl nw : Nat) : Blk := .row 89 false none (.cells [.int .i64 a, .int .i64 b, .int .i64 c, .slu nl 64 0 n, .int .u32 sc, .map nw, .int .i64 out])
abbrev imY (a b c sc : Int) (n : Nat) (out : Int) (nl nw : Nat) : Blk := .row 107 false none (.cells [.int .i64 a, .int .i64 b, .int .i64 c, .slu nl 64 0 n, .int .u32 sc, .sl nw 0 n n, .int .i64 out])
noncomputable def hp6 : T Blk := ofL [(0, .win off .u8 G), (1, x1), (2, scB F n), (3, scB F n), (4, geB a b c), (5, scB L n), (6, mp), (7, imX a b c sc n out 5 6), (8, geB a b c), (9, .row 49 false none (.ints .u8 [] 0)), (10, scB L' n), (11, .row 4 false none (.bools W n)), (12, imY a b c sc n out' 10 11)]
noncomputable def s6a : S := fgt [2, 3, 9, 11] 131 ⟨ofL [(2, av), (3, .one (.c (.int .i64 g))), (9, .one (.c (.ptr 7 0))), (11, .one (.c (.ptr 12 0)))], hp6 off G F n a b c sc L W out mp x1 L out, 13, []⟩
noncomputable def s6c : S := low 131 13 (fgt [2, 3, 9, 11, 13] 131 ⟨ofL [(2, .one (.c (.sl 1 oA nA cA))), (3, .one (.c (.int .i64 g))), (9, .one (.c (.ptr 7 0))), (11, .one (.c (.ptr 12 0))), (13, .one (.c (.int .i64 i)))], hp6 off G F n a b c sc L W out (.mapI none l) (.recs oA ksA A) L out, 13, []⟩)
noncomputable def s6w : S := low 131 13 (fgt [2, 3, 9, 11, 13] 131 ⟨ofL [(2, .one (.c (.sl 1 oA nA cA))), (3, .one (.c (.int .i64 g))), (9, .one (.c (.ptr 7 0))), (11, .one (.c (.ptr 12 0))), (13, .one (.c (.int .i64 i)))], hp6 off G F n a b c sc L W out (.mapI none l) (.recs oA ksA A) L' out', 13, []⟩)
noncomputable def s6z : S := low 131 13 (fgt [3, 9, 11] 131 ⟨ofL [(3, .one (.c (.int .i64 g))), (9, .one (.c (.ptr 7 0))), (11, .one (.c (.ptr 12 0)))], hp6 off G F n a b c sc L W out (.mapI none l) x1 L out, 13, []⟩)
noncomputable def ini6 (Q : X → S → Prop) : Option Prop := execA Try.prog sg6n 300 131 (gL (gL (tailN 6 c6))) (asB 6 (.mapI none []) (s6a off G F n a b c sc L W out g (.one (.c (.sl 1 oA nA cA))) (.map []) (.recs oA ksA A))) αT (fun x s α => some (All α.ob ∧ match x with | .ret => False | x => Nat.ble 13 s.nx = true ∧ Q x (low 131 13 (fgt [2, 3, 9, 11, 13] 131 s))))
noncomputable def rnd6 (Q : X → S → Prop) : Option Prop := execA Try.prog sg6n 300 131 l6 (s6c off G oA nA cA A F n a b c sc L l W out g i) αT (fun x s α => some (All α.ob ∧ match x with | .ret => False | x => Nat.ble 13 s.nx = true ∧ Q x (low 131 13 (fgt [2, 3, 9, 11, 13] 131 s))))
noncomputable def nil6 (Q : X → S → Prop) : Option Prop := execA Try.prog sg6n 300 131 (gL (tailN 6 c6)) (asB 6 (.mapI none []) (s6a off G F n a b c sc L W out g (.one (.c .sl0)) (.map []) (.win off .u8 G))) αT (fun x s α => some (All α.ob ∧ match x with | .ret => False | x => Nat.ble 13 s.nx = true ∧ Q x (low 131 13 (fgt [3, 9, 11] 131 s))))
noncomputable def fin6 (R : X → Option (List AV) → Prop) : Option Prop := execA Try.prog sg6n 300 131 (gR (tailN 6 c6)) (s6z off G F n a b c sc L l W out g (.recs oA ksA A)) αT (fun x s α => some (All α.ob ∧ R x (resOf Try.prog 131 s Try.f6.results.toList)))
noncomputable def fin6w (R : X → Option (List AV) → Prop) : Option Prop := execA Try.prog sg6n 300 131 (gR (tailN 6 c6)) (s6z off G F n a b c sc L l W out g (.win off .u8 G)) αT (fun x s α => some (All α.ob ∧ R x (resOf Try.prog 131 s Try.f6.results.toList)))
end
end Go.Sx

namespace Go.Sx
open Go.Proofs Go.RowKit
set_option maxRecDepth 100000
noncomputable abbrev ini6_x0 (n : Nat) : Nat := 64 * n
noncomputable def ini6_t (off : Nat) (G : List Int) (oA : Nat) (nA : Nat) (cA : Nat) (A : List Int) (F : List Int) (n : Nat) (a : Int) (b : Int) (c : Int) (sc : Int) (L : List Int) (W : List Bool) (out : Int) (g : Int) (Q : X → S → Prop) : Option Prop :=
 some ((All [] ∧ ((true = true) ∧ Q (X.normal) (s6c off G oA nA cA A F n a b c sc L [] W out g 0))))
theorem ini6_tree (off : Nat) (G : List Int) (oA : Nat) (nA : Nat) (cA : Nat) (A : List Int) (F : List Int) (n : Nat) (a : Int) (b : Int) (c : Int) (sc : Int) (L : List Int) (W : List Bool) (out : Int) (g : Int) (Q : X → S → Prop) : ini6 off G oA nA cA A F n a b c sc L W out g Q = ini6_t off G oA nA cA A F n a b c sc L W out g Q := by kernel_rfl
noncomputable abbrev nil6_x0 (n : Nat) : Nat := 64 * n
noncomputable def nil6_t (off : Nat) (G : List Int) (F : List Int) (n : Nat) (a : Int) (b : Int) (c : Int) (sc : Int) (L : List Int) (W : List Bool) (out : Int) (g : Int) (Q : X → S → Prop) : Option Prop :=
 some ((All [] ∧ ((true = true) ∧ Q (X.normal) (s6z off G F n a b c sc L [] W out g (.win off .u8 G)))))
theorem nil6_tree (off : Nat) (G : List Int) (F : List Int) (n : Nat) (a : Int) (b : Int) (c : Int) (sc : Int) (L : List Int) (W : List Bool) (out : Int) (g : Int) (Q : X → S → Prop) : nil6 off G F n a b c sc L W out g Q = nil6_t off G F n a b c sc L W out g Q := by kernel_rfl
noncomputable abbrev fin6_x0 (n : Nat) (a : Int) (b : Int) (c : Int) (sc : Int) (L : List Int) (W : List Bool) (out : Int) : List Int := (runR a b c n sc (L, W, out)).fst
noncomputable abbrev fin6_x1 (n : Nat) : Nat := 64 * n
noncomputable abbrev fin6_x2 (n : Nat) (a : Int) (b : Int) (c : Int) (sc : Int) (L : List Int) (l : List (Int × Int)) (out : Int) : List Int := (runS a b c n sc (L, l, out)).fst
noncomputable abbrev fin6_x3 (n : Nat) (a : Int) (b : Int) (c : Int) (sc : Int) (L : List Int) (W : List Bool) (out : Int) : Int := (runR a b c n sc (L, W, out)).snd.snd
noncomputable abbrev fin6_x4 (n : Nat) (a : Int) (b : Int) (c : Int) (sc : Int) (L : List Int) (l : List (Int × Int)) (out : Int) : Int := (runS a b c n sc (L, l, out)).snd.snd
noncomputable def fin6_t (off : Nat) (G : List Int) (oA : Nat) (A : List Int) (F : List Int) (n : Nat) (a : Int) (b : Int) (c : Int) (sc : Int) (L : List Int) (l : List (Int × Int)) (W : List Bool) (out : Int) (g : Int) (R : X → Option (List AV) → Prop) : Option Prop :=
 (bif inS a sc g == inS a sc g then (
  some ((All [(fin6_x0 n a b c sc L W out).length = (fin6_x1 n), (fin6_x1 n) = (fin6_x1 n), n = n, n = n, n = n, (runR a b c n sc (L, W, out)).snd.fst.length = n, a < 9223372036854775808, U32 sc, (fin6_x2 n a b c sc L l out).length = (fin6_x1 n), (fin6_x1 n) = (fin6_x1 n), n ≠ 0, n ≤ 140, a = a, b = b, c = c, sc = sc, n = n, (fin6_x1 n) = (fin6_x1 n), n = n, n = n, n = n, (fin6_x0 n a b c sc L W out) = (fin6_x2 n a b c sc L l out), (fin6_x3 n a b c sc L W out) = (fin6_x4 n a b c sc L l out), Sim n ((fin6_x2 n a b c sc L l out), (runS a b c n sc (L, l, out)).snd.fst, (fin6_x4 n a b c sc L l out))
  ((fin6_x0 n a b c sc L W out), (runR a b c n sc (L, W, out)).snd.fst, (fin6_x3 n a b c sc L W out)), L.length = (fin6_x1 n), (fin6_x1 n) = (fin6_x1 n), n = n, n = n, n = n, W.length = n, a < 9223372036854775808, U32 sc, 2 ≤ n, n < 9223372036854775807, Bytes L, L.length = (fin6_x1 n), (fin6_x1 n) = (fin6_x1 n), geoB a b c = true] ∧ R (X.ret) (some [AV.c (Cell.bool true)])))
  ) else (
  some ((All [(fin6_x0 n a b c sc L W out).length = (fin6_x1 n), (fin6_x1 n) = (fin6_x1 n), n = n, n = n, n = n, (runR a b c n sc (L, W, out)).snd.fst.length = n, a < 9223372036854775808, U32 sc, (fin6_x2 n a b c sc L l out).length = (fin6_x1 n), (fin6_x1 n) = (fin6_x1 n), n ≠ 0, n ≤ 140, a = a, b = b, c = c, sc = sc, n = n, (fin6_x1 n) = (fin6_x1 n), n = n, n = n, n = n, (fin6_x0 n a b c sc L W out) = (fin6_x2 n a b c sc L l out), (fin6_x3 n a b c sc L W out) = (fin6_x4 n a b c sc L l out), Sim n ((fin6_x2 n a b c sc L l out), (runS a b c n sc (L, l, out)).snd.fst, (fin6_x4 n a b c sc L l out))
  ((fin6_x0 n a b c sc L W out), (runR a b c n sc (L, W, out)).snd.fst, (fin6_x3 n a b c sc L W out)), L.length = (fin6_x1 n), (fin6_x1 n) = (fin6_x1 n), n = n, n = n, n = n, W.length = n, a < 9223372036854775808, U32 sc, 2 ≤ n, n < 9223372036854775807, Bytes L, L.length = (fin6_x1 n), (fin6_x1 n) = (fin6_x1 n), geoB a b c = true] ∧ R (X.ret) (some [AV.c (Cell.bool false)])))
  ))
theorem fin6_tree (off : Nat) (G : List Int) (oA : Nat) (A : List Int) (F : List Int) (n : Nat) (a : Int) (b : Int) (c : Int) (sc : Int) (L : List Int) (l : List (Int × Int)) (W : List Bool) (out : Int) (g : Int) (R : X → Option (List AV) → Prop) : fin6 off G oA A F n a b c sc L l W out g R = fin6_t off G oA A F n a b c sc L l W out g R := by kernel_rfl
noncomputable abbrev fin6w_x0 (n : Nat) (a : Int) (b : Int) (c : Int) (sc : Int) (L : List Int) (W : List Bool) (out : Int) : List Int := (runR a b c n sc (L, W, out)).fst
noncomputable abbrev fin6w_x1 (n : Nat) : Nat := 64 * n
noncomputable abbrev fin6w_x2 (n : Nat) (a : Int) (b : Int) (c : Int) (sc : Int) (L : List Int) (l : List (Int × Int)) (out : Int) : List Int := (runS a b c n sc (L, l, out)).fst
noncomputable abbrev fin6w_x3 (n : Nat) (a : Int) (b : Int) (c : Int) (sc : Int) (L : List Int) (W : List Bool) (out : Int) : Int := (runR a b c n sc (L, W, out)).snd.snd
noncomputable abbrev fin6w_x4 (n : Nat) (a : Int) (b : Int) (c : Int) (sc : Int) (L : List Int) (l : List (Int × Int)) (out : Int) : Int := (runS a b c n sc (L, l, out)).snd.snd
noncomputable def fin6w_t (off : Nat) (G : List Int) (F : List Int) (n : Nat) (a : Int) (b : Int) (c : Int) (sc : Int) (L : List Int) (l : List (Int × Int)) (W : List Bool) (out : Int) (g : Int) (R : X → Option (List AV) → Prop) : Option Prop :=
 (bif inS a sc g == inS a sc g then (
  some ((All [(fin6w_x0 n a b c sc L W out).length = (fin6w_x1 n), (fin6w_x1 n) = (fin6w_x1 n), n = n, n = n, n = n, (runR a b c n sc (L, W, out)).snd.fst.length = n, a < 9223372036854775808, U32 sc, (fin6w_x2 n a b c sc L l out).length = (fin6w_x1 n), (fin6w_x1 n) = (fin6w_x1 n), n ≠ 0, n ≤ 140, a = a, b = b, c = c, sc = sc, n = n, (fin6w_x1 n) = (fin6w_x1 n), n = n, n = n, n = n, (fin6w_x0 n a b c sc L W out) = (fin6w_x2 n a b c sc L l out), (fin6w_x3 n a b c sc L W out) = (fin6w_x4 n a b c sc L l out), Sim n ((fin6w_x2 n a b c sc L l out), (runS a b c n sc (L, l, out)).snd.fst, (fin6w_x4 n a b c sc L l out))
  ((fin6w_x0 n a b c sc L W out), (runR a b c n sc (L, W, out)).snd.fst, (fin6w_x3 n a b c sc L W out)), L.length = (fin6w_x1 n), (fin6w_x1 n) = (fin6w_x1 n), n = n, n = n, n = n, W.length = n, a < 9223372036854775808, U32 sc, 2 ≤ n, n < 9223372036854775807, Bytes L, L.length = (fin6w_x1 n), (fin6w_x1 n) = (fin6w_x1 n), geoB a b c = true] ∧ R (X.ret) (some [AV.c (Cell.bool true)])))
  ) else (
  some ((All [(fin6w_x0 n a b c sc L W out).length = (fin6w_x1 n), (fin6w_x1 n) = (fin6w_x1 n), n = n, n = n, n = n, (runR a b c n sc (L, W, out)).snd.fst.length = n, a < 9223372036854775808, U32 sc, (fin6w_x2 n a b c sc L l out).length = (fin6w_x1 n), (fin6w_x1 n) = (fin6w_x1 n), n ≠ 0, n ≤ 140, a = a, b = b, c = c, sc = sc, n = n, (fin6w_x1 n) = (fin6w_x1 n), n = n, n = n, n = n, (fin6w_x0 n a b c sc L W out) = (fin6w_x2 n a b c sc L l out), (fin6w_x3 n a b c sc L W out) = (fin6w_x4 n a b c sc L l out), Sim n ((fin6w_x2 n a b c sc L l out), (runS a b c n sc (L, l, out)).snd.fst, (fin6w_x4 n a b c sc L l out))
  ((fin6w_x0 n a b c sc L W out), (runR a b c n sc (L, W, out)).snd.fst, (fin6w_x3 n a b c sc L W out)), L.length = (fin6w_x1 n), (fin6w_x1 n) = (fin6w_x1 n), n = n, n = n, n = n, W.length = n, a < 9223372036854775808, U32 sc, 2 ≤ n, n < 9223372036854775807, Bytes L, L.length = (fin6w_x1 n), (fin6w_x1 n) = (fin6w_x1 n), geoB a b c = true] ∧ R (X.ret) (some [AV.c (Cell.bool false)])))
  ))
theorem fin6w_tree (off : Nat) (G : List Int) (F : List Int) (n : Nat) (a : Int) (b : Int) (c : Int) (sc : Int) (L : List Int) (l : List (Int × Int)) (W : List Bool) (out : Int) (g : Int) (R : X → Option (List AV) → Prop) : fin6w off G F n a b c sc L l W out g R = fin6w_t off G F n a b c sc L l W out g R := by kernel_rfl
noncomputable abbrev rnd6_x0 (oA : Nat) (i : Int) : Nat := oA + i.toNat * 56
noncomputable abbrev rnd6_x1 (oA : Nat) (i : Int) : Nat := (rnd6_x0 oA i) - oA
noncomputable abbrev rnd6_x2 (oA : Nat) (A : List Int) (i : Int) : Int := A.getD (rnd6_x1 oA i) 0
noncomputable abbrev rnd6_x3 (oA : Nat) (i : Int) : Nat := (rnd6_x1 oA i) + 1
noncomputable abbrev rnd6_x4 (oA : Nat) (A : List Int) (i : Int) : Int := A.getD (rnd6_x3 oA i) 0
noncomputable abbrev rnd6_x5 (oA : Nat) (A : List Int) (n : Nat) (L : List Int) (i : Int) : List Int := over z54 0 (ldP L n (rnd6_x2 oA A i) (rnd6_x4 oA A i))
noncomputable abbrev rnd6_x6 (oA : Nat) (A : List Int) (n : Nat) (L : List Int) (i : Int) : List Int := List.take 54 (List.drop 0 (rnd6_x5 oA A n L i))
noncomputable abbrev rnd6_x7 (n : Nat) : Nat := 64 * n
noncomputable abbrev rnd6_x8 (oA : Nat) (A : List Int) (n : Nat) (L : List Int) (i : Int) : Bool := ldOk L n (rnd6_x2 oA A i) (rnd6_x4 oA A i)
noncomputable abbrev rnd6_x9 (oA : Nat) (i : Int) : Nat := (rnd6_x3 oA i) + 1
noncomputable abbrev rnd6_x10 (oA : Nat) (A : List Int) (i : Int) : Int := A.getD (rnd6_x9 oA i) 0
noncomputable abbrev rnd6_x11 (oA : Nat) (i : Int) : Nat := (rnd6_x9 oA i) + 1
noncomputable abbrev rnd6_x12 (oA : Nat) (A : List Int) (i : Int) : Int := A.getD (rnd6_x11 oA i) 0
noncomputable abbrev rnd6_x13 (oA : Nat) (i : Int) : Nat := (rnd6_x11 oA i) + 1
noncomputable abbrev rnd6_x14 (oA : Nat) (A : List Int) (i : Int) : Int := A.getD (rnd6_x13 oA i) 0
noncomputable abbrev rnd6_x15 (oA : Nat) (i : Int) : Nat := (rnd6_x13 oA i) + 1
noncomputable abbrev rnd6_x16 (oA : Nat) (A : List Int) (i : Int) : Int := A.getD (rnd6_x15 oA i) 0
noncomputable abbrev rnd6_x17 (oA : Nat) (i : Int) : Nat := (rnd6_x15 oA i) + 1
noncomputable abbrev rnd6_x18 (oA : Nat) (A : List Int) (i : Int) : Int := A.getD (rnd6_x17 oA i) 0
noncomputable abbrev rnd6_x19 (oA : Nat) (i : Int) : Nat := (rnd6_x17 oA i) + 1
noncomputable abbrev rnd6_x20 (oA : Nat) (A : List Int) (i : Int) : Int := A.getD (rnd6_x19 oA i) 0
noncomputable abbrev rnd6_x21 (oA : Nat) (i : Int) : Nat := (rnd6_x19 oA i) + 1
noncomputable abbrev rnd6_x22 (oA : Nat) (A : List Int) (i : Int) : Int := A.getD (rnd6_x21 oA i) 0
noncomputable abbrev rnd6_x23 (oA : Nat) (i : Int) : Nat := (rnd6_x21 oA i) + 1
noncomputable abbrev rnd6_x24 (oA : Nat) (A : List Int) (i : Int) : Int := A.getD (rnd6_x23 oA i) 0
noncomputable abbrev rnd6_x25 (oA : Nat) (i : Int) : Nat := (rnd6_x23 oA i) + 1
noncomputable abbrev rnd6_x26 (oA : Nat) (A : List Int) (i : Int) : Int := A.getD (rnd6_x25 oA i) 0
noncomputable abbrev rnd6_x27 (oA : Nat) (i : Int) : Nat := (rnd6_x25 oA i) + 1
noncomputable abbrev rnd6_x28 (oA : Nat) (A : List Int) (i : Int) : Int := A.getD (rnd6_x27 oA i) 0
noncomputable abbrev rnd6_x29 (oA : Nat) (i : Int) : Nat := (rnd6_x27 oA i) + 1
noncomputable abbrev rnd6_x30 (oA : Nat) (A : List Int) (i : Int) : Int := A.getD (rnd6_x29 oA i) 0
noncomputable abbrev rnd6_x31 (oA : Nat) (i : Int) : Nat := (rnd6_x29 oA i) + 1
noncomputable abbrev rnd6_x32 (oA : Nat) (A : List Int) (i : Int) : Int := A.getD (rnd6_x31 oA i) 0
noncomputable abbrev rnd6_x33 (oA : Nat) (i : Int) : Nat := (rnd6_x31 oA i) + 1
noncomputable abbrev rnd6_x34 (oA : Nat) (A : List Int) (i : Int) : Int := A.getD (rnd6_x33 oA i) 0
noncomputable abbrev rnd6_x35 (oA : Nat) (i : Int) : Nat := (rnd6_x33 oA i) + 1
noncomputable abbrev rnd6_x36 (oA : Nat) (A : List Int) (i : Int) : Int := A.getD (rnd6_x35 oA i) 0
noncomputable abbrev rnd6_x37 (oA : Nat) (i : Int) : Nat := (rnd6_x35 oA i) + 1
noncomputable abbrev rnd6_x38 (oA : Nat) (A : List Int) (i : Int) : Int := A.getD (rnd6_x37 oA i) 0
noncomputable abbrev rnd6_x39 (oA : Nat) (i : Int) : Nat := (rnd6_x37 oA i) + 1
noncomputable abbrev rnd6_x40 (oA : Nat) (A : List Int) (i : Int) : Int := A.getD (rnd6_x39 oA i) 0
noncomputable abbrev rnd6_x41 (oA : Nat) (i : Int) : Nat := (rnd6_x39 oA i) + 1
noncomputable abbrev rnd6_x42 (oA : Nat) (A : List Int) (i : Int) : Int := A.getD (rnd6_x41 oA i) 0
noncomputable abbrev rnd6_x43 (oA : Nat) (i : Int) : Nat := (rnd6_x41 oA i) + 1
noncomputable abbrev rnd6_x44 (oA : Nat) (A : List Int) (i : Int) : Int := A.getD (rnd6_x43 oA i) 0
noncomputable abbrev rnd6_x45 (oA : Nat) (i : Int) : Nat := (rnd6_x43 oA i) + 1
noncomputable abbrev rnd6_x46 (oA : Nat) (A : List Int) (i : Int) : Int := A.getD (rnd6_x45 oA i) 0
noncomputable abbrev rnd6_x47 (oA : Nat) (i : Int) : Nat := (rnd6_x45 oA i) + 1
noncomputable abbrev rnd6_x48 (oA : Nat) (A : List Int) (i : Int) : Int := A.getD (rnd6_x47 oA i) 0
noncomputable abbrev rnd6_x49 (oA : Nat) (i : Int) : Nat := (rnd6_x47 oA i) + 1
noncomputable abbrev rnd6_x50 (oA : Nat) (A : List Int) (i : Int) : Int := A.getD (rnd6_x49 oA i) 0
noncomputable abbrev rnd6_x51 (oA : Nat) (i : Int) : Nat := (rnd6_x49 oA i) + 1
noncomputable abbrev rnd6_x52 (oA : Nat) (A : List Int) (i : Int) : Int := A.getD (rnd6_x51 oA i) 0
noncomputable abbrev rnd6_x53 (oA : Nat) (i : Int) : Nat := (rnd6_x51 oA i) + 1
noncomputable abbrev rnd6_x54 (oA : Nat) (A : List Int) (i : Int) : Int := A.getD (rnd6_x53 oA i) 0
noncomputable abbrev rnd6_x55 (oA : Nat) (i : Int) : Nat := (rnd6_x53 oA i) + 1
noncomputable abbrev rnd6_x56 (oA : Nat) (A : List Int) (i : Int) : Int := A.getD (rnd6_x55 oA i) 0
noncomputable abbrev rnd6_x57 (oA : Nat) (i : Int) : Nat := (rnd6_x55 oA i) + 1
noncomputable abbrev rnd6_x58 (oA : Nat) (A : List Int) (i : Int) : Int := A.getD (rnd6_x57 oA i) 0
noncomputable abbrev rnd6_x59 (oA : Nat) (i : Int) : Nat := (rnd6_x57 oA i) + 1
noncomputable abbrev rnd6_x60 (oA : Nat) (A : List Int) (i : Int) : Int := A.getD (rnd6_x59 oA i) 0
noncomputable abbrev rnd6_x61 (oA : Nat) (i : Int) : Nat := (rnd6_x59 oA i) + 1
noncomputable abbrev rnd6_x62 (oA : Nat) (A : List Int) (i : Int) : Int := A.getD (rnd6_x61 oA i) 0
noncomputable abbrev rnd6_x63 (oA : Nat) (i : Int) : Nat := (rnd6_x61 oA i) + 1
noncomputable abbrev rnd6_x64 (oA : Nat) (A : List Int) (i : Int) : Int := A.getD (rnd6_x63 oA i) 0
noncomputable abbrev rnd6_x65 (oA : Nat) (i : Int) : Nat := (rnd6_x63 oA i) + 1
noncomputable abbrev rnd6_x66 (oA : Nat) (A : List Int) (i : Int) : Int := A.getD (rnd6_x65 oA i) 0
noncomputable abbrev rnd6_x67 (oA : Nat) (i : Int) : Nat := (rnd6_x65 oA i) + 1
noncomputable abbrev rnd6_x68 (oA : Nat) (A : List Int) (i : Int) : Int := A.getD (rnd6_x67 oA i) 0
noncomputable abbrev rnd6_x69 (oA : Nat) (i : Int) : Nat := (rnd6_x67 oA i) + 1
noncomputable abbrev rnd6_x70 (oA : Nat) (A : List Int) (i : Int) : Int := A.getD (rnd6_x69 oA i) 0
noncomputable abbrev rnd6_x71 (oA : Nat) (i : Int) : Nat := (rnd6_x69 oA i) + 1
noncomputable abbrev rnd6_x72 (oA : Nat) (A : List Int) (i : Int) : Int := A.getD (rnd6_x71 oA i) 0
noncomputable abbrev rnd6_x73 (oA : Nat) (i : Int) : Nat := (rnd6_x71 oA i) + 1
noncomputable abbrev rnd6_x74 (oA : Nat) (A : List Int) (i : Int) : Int := A.getD (rnd6_x73 oA i) 0
noncomputable abbrev rnd6_x75 (oA : Nat) (i : Int) : Nat := (rnd6_x73 oA i) + 1
noncomputable abbrev rnd6_x76 (oA : Nat) (A : List Int) (i : Int) : Int := A.getD (rnd6_x75 oA i) 0
noncomputable abbrev rnd6_x77 (oA : Nat) (i : Int) : Nat := (rnd6_x75 oA i) + 1
noncomputable abbrev rnd6_x78 (oA : Nat) (A : List Int) (i : Int) : Int := A.getD (rnd6_x77 oA i) 0
noncomputable abbrev rnd6_x79 (oA : Nat) (i : Int) : Nat := (rnd6_x77 oA i) + 1
noncomputable abbrev rnd6_x80 (oA : Nat) (A : List Int) (i : Int) : Int := A.getD (rnd6_x79 oA i) 0
noncomputable abbrev rnd6_x81 (oA : Nat) (i : Int) : Nat := (rnd6_x79 oA i) + 1
noncomputable abbrev rnd6_x82 (oA : Nat) (A : List Int) (i : Int) : Int := A.getD (rnd6_x81 oA i) 0
noncomputable abbrev rnd6_x83 (oA : Nat) (i : Int) : Nat := (rnd6_x81 oA i) + 1
noncomputable abbrev rnd6_x84 (oA : Nat) (A : List Int) (i : Int) : Int := A.getD (rnd6_x83 oA i) 0
noncomputable abbrev rnd6_x85 (oA : Nat) (i : Int) : Nat := (rnd6_x83 oA i) + 1
noncomputable abbrev rnd6_x86 (oA : Nat) (A : List Int) (i : Int) : Int := A.getD (rnd6_x85 oA i) 0
noncomputable abbrev rnd6_x87 (oA : Nat) (i : Int) : Nat := (rnd6_x85 oA i) + 1
noncomputable abbrev rnd6_x88 (oA : Nat) (A : List Int) (i : Int) : Int := A.getD (rnd6_x87 oA i) 0
noncomputable abbrev rnd6_x89 (oA : Nat) (i : Int) : Nat := (rnd6_x87 oA i) + 1
noncomputable abbrev rnd6_x90 (oA : Nat) (A : List Int) (i : Int) : Int := A.getD (rnd6_x89 oA i) 0
noncomputable abbrev rnd6_x91 (oA : Nat) (i : Int) : Nat := (rnd6_x89 oA i) + 1
noncomputable abbrev rnd6_x92 (oA : Nat) (A : List Int) (i : Int) : Int := A.getD (rnd6_x91 oA i) 0
noncomputable abbrev rnd6_x93 (oA : Nat) (i : Int) : Nat := (rnd6_x91 oA i) + 1
noncomputable abbrev rnd6_x94 (oA : Nat) (A : List Int) (i : Int) : Int := A.getD (rnd6_x93 oA i) 0
noncomputable abbrev rnd6_x95 (oA : Nat) (i : Int) : Nat := (rnd6_x93 oA i) + 1
noncomputable abbrev rnd6_x96 (oA : Nat) (A : List Int) (i : Int) : Int := A.getD (rnd6_x95 oA i) 0
noncomputable abbrev rnd6_x97 (oA : Nat) (i : Int) : Nat := (rnd6_x95 oA i) + 1
noncomputable abbrev rnd6_x98 (oA : Nat) (A : List Int) (i : Int) : Int := A.getD (rnd6_x97 oA i) 0
noncomputable abbrev rnd6_x99 (oA : Nat) (i : Int) : Nat := (rnd6_x97 oA i) + 1
noncomputable abbrev rnd6_x100 (oA : Nat) (A : List Int) (i : Int) : Int := A.getD (rnd6_x99 oA i) 0
noncomputable abbrev rnd6_x101 (oA : Nat) (i : Int) : Nat := (rnd6_x99 oA i) + 1
noncomputable abbrev rnd6_x102 (oA : Nat) (A : List Int) (i : Int) : Int := A.getD (rnd6_x101 oA i) 0
noncomputable abbrev rnd6_x103 (oA : Nat) (i : Int) : Nat := (rnd6_x101 oA i) + 1
noncomputable abbrev rnd6_x104 (oA : Nat) (A : List Int) (i : Int) : Int := A.getD (rnd6_x103 oA i) 0
noncomputable abbrev rnd6_x105 (oA : Nat) (i : Int) : Nat := (rnd6_x103 oA i) + 1
noncomputable abbrev rnd6_x106 (oA : Nat) (A : List Int) (i : Int) : Int := A.getD (rnd6_x105 oA i) 0
noncomputable abbrev rnd6_x107 (oA : Nat) (i : Int) : Nat := (rnd6_x105 oA i) + 1
noncomputable abbrev rnd6_x108 (oA : Nat) (A : List Int) (i : Int) : Int := A.getD (rnd6_x107 oA i) 0
noncomputable abbrev rnd6_x109 (oA : Nat) (i : Int) : Nat := (rnd6_x107 oA i) + 1
noncomputable abbrev rnd6_x110 (oA : Nat) (A : List Int) (i : Int) : Int := A.getD (rnd6_x109 oA i) 0
noncomputable abbrev rnd6_x111 (oA : Nat) (i : Int) : Nat := (rnd6_x109 oA i) + 1
noncomputable abbrev rnd6_x112 (oA : Nat) (A : List Int) (i : Int) : Int := A.getD (rnd6_x111 oA i) 0
noncomputable abbrev rnd6_x113 (oA : Nat) (i : Int) : Nat := (rnd6_x111 oA i) + 1
noncomputable abbrev rnd6_x114 (oA : Nat) (A : List Int) (i : Int) : Int := A.getD (rnd6_x113 oA i) 0
noncomputable abbrev rnd6_x115 (oA : Nat) (A : List Int) (i : Int) : Int := A.getD ((rnd6_x113 oA i) + 1) 0
noncomputable abbrev rnd6_x116 (oA : Nat) (A : List Int) (i : Int) : List Int := [(rnd6_x10 oA A i), (rnd6_x12 oA A i), (rnd6_x14 oA A i), (rnd6_x16 oA A i), (rnd6_x18 oA A i),
  (rnd6_x20 oA A i), (rnd6_x22 oA A i), (rnd6_x24 oA A i), (rnd6_x26 oA A i), (rnd6_x28 oA A i),
  (rnd6_x30 oA A i), (rnd6_x32 oA A i), (rnd6_x34 oA A i), (rnd6_x36 oA A i), (rnd6_x38 oA A i),
  (rnd6_x40 oA A i), (rnd6_x42 oA A i), (rnd6_x44 oA A i), (rnd6_x46 oA A i), (rnd6_x48 oA A i),
  (rnd6_x50 oA A i), (rnd6_x52 oA A i), (rnd6_x54 oA A i), (rnd6_x56 oA A i), (rnd6_x58 oA A i),
  (rnd6_x60 oA A i), (rnd6_x62 oA A i), (rnd6_x64 oA A i), (rnd6_x66 oA A i), (rnd6_x68 oA A i),
  (rnd6_x70 oA A i), (rnd6_x72 oA A i), (rnd6_x74 oA A i), (rnd6_x76 oA A i), (rnd6_x78 oA A i),
  (rnd6_x80 oA A i), (rnd6_x82 oA A i), (rnd6_x84 oA A i), (rnd6_x86 oA A i), (rnd6_x88 oA A i),
  (rnd6_x90 oA A i), (rnd6_x92 oA A i), (rnd6_x94 oA A i), (rnd6_x96 oA A i), (rnd6_x98 oA A i),
  (rnd6_x100 oA A i), (rnd6_x102 oA A i), (rnd6_x104 oA A i), (rnd6_x106 oA A i), (rnd6_x108 oA A i),
  (rnd6_x110 oA A i), (rnd6_x112 oA A i), (rnd6_x114 oA A i), (rnd6_x115 oA A i)]
noncomputable abbrev rnd6_x117 (oA : Nat) (A : List Int) (n : Nat) (a : Int) (b : Int) (c : Int) (sc : Int) (L : List Int) (l : List (Int × Int)) (out : Int) (i : Int) : List Int := (wrEnd a b c n sc out L l (rnd6_x2 oA A i) (rnd6_x4 oA A i) (rnd6_x116 oA A i)).snd.fst
noncomputable abbrev rnd6_x118 (oA : Nat) (A : List Int) (n : Nat) (a : Int) (b : Int) (c : Int) (sc : Int) (L : List Int) (W : List Bool) (out : Int) (i : Int) : List Int := (wrF a b c n sc (L, W, out) (rnd6_x2 oA A i) (rnd6_x4 oA A i) (rnd6_x116 oA A i)).snd.fst
noncomputable abbrev rnd6_x119 (oA : Nat) (A : List Int) (n : Nat) (a : Int) (b : Int) (c : Int) (sc : Int) (L : List Int) (W : List Bool) (out : Int) (i : Int) : Int := (wrF a b c n sc (L, W, out) (rnd6_x2 oA A i) (rnd6_x4 oA A i) (rnd6_x116 oA A i)).snd.snd.snd
noncomputable abbrev rnd6_x120 (oA : Nat) (A : List Int) (n : Nat) (a : Int) (b : Int) (c : Int) (sc : Int) (L : List Int) (l : List (Int × Int)) (out : Int) (i : Int) : Int := (wrEnd a b c n sc out L l (rnd6_x2 oA A i) (rnd6_x4 oA A i) (rnd6_x116 oA A i)).snd.snd.snd
noncomputable def rnd6_t (off : Nat) (G : List Int) (oA : Nat) (nA : Nat) (cA : Nat) (A : List Int) (F : List Int) (n : Nat) (a : Int) (b : Int) (c : Int) (sc : Int) (L : List Int) (l : List (Int × Int)) (W : List Bool) (out : Int) (g : Int) (i : Int) (Q : X → S → Prop) : Option Prop :=
 (bif decide (i < (↑nA : Int)) then (
  (bif decide (i < 12) then (
   (bif decide (0 ≤ i ∧ i < (↑nA : Int)) then (
    (bif decide (recP oA ksA A (rnd6_x0 oA i) 56) then (
     (bif !(rnd6_x6 oA A n L i) == (rnd6_x6 oA A n L i) then (
      some ((All [L.length = (rnd6_x7 n), (rnd6_x7 n) = (rnd6_x7 n), Bytes L, L.length = (rnd6_x7 n), (rnd6_x7 n) = (rnd6_x7 n)] ∧ False ))
      ) else (
      (bif !(rnd6_x8 oA A n L i) == (rnd6_x8 oA A n L i) then (
       some ((All [L.length = (rnd6_x7 n), (rnd6_x7 n) = (rnd6_x7 n), Bytes L, L.length = (rnd6_x7 n), (rnd6_x7 n) = (rnd6_x7 n)] ∧ False ))
       ) else (
       (bif !(wrEnd a b c n sc out L l (rnd6_x2 oA A i) (rnd6_x4 oA A i) (rnd6_x116 oA A i)).fst ==
    (wrF a b c n sc (L, W, out) (rnd6_x2 oA A i) (rnd6_x4 oA A i) (rnd6_x116 oA A i)).fst then (
        some ((All [L.length = (rnd6_x7 n), (rnd6_x7 n) = (rnd6_x7 n), n = n, n = n, n = n, W.length = n, Bytes L, a < 9223372036854775808, U32 sc, (rnd6_x116 oA A i).length = 54, L.length = (rnd6_x7 n), (rnd6_x7 n) = (rnd6_x7 n), (rnd6_x116 oA A i).length = 54, L.length = (rnd6_x7 n), (rnd6_x7 n) = (rnd6_x7 n), Bytes L, L.length = (rnd6_x7 n), (rnd6_x7 n) = (rnd6_x7 n)] ∧ False ))
        ) else (
        some ((All [(rnd6_x117 oA A n a b c sc L l out i).length = (rnd6_x7 n), (rnd6_x7 n) = (rnd6_x7 n), n ≠ 0, n ≤ 140, a = a, b = b, c = c, sc = sc, n = n, (rnd6_x7 n) = (rnd6_x7 n), n = n, n = n, n = n, (rnd6_x118 oA A n a b c sc L W out i) = (rnd6_x117 oA A n a b c sc L l out i), (rnd6_x119 oA A n a b c sc L W out i) = (rnd6_x120 oA A n a b c sc L l out i), Sim n
  ((rnd6_x117 oA A n a b c sc L l out i),
    (wrEnd a b c n sc out L l (rnd6_x2 oA A i) (rnd6_x4 oA A i) (rnd6_x116 oA A i)).snd.snd.fst,
    (rnd6_x120 oA A n a b c sc L l out i))
  ((rnd6_x118 oA A n a b c sc L W out i),
    (wrF a b c n sc (L, W, out) (rnd6_x2 oA A i) (rnd6_x4 oA A i) (rnd6_x116 oA A i)).snd.snd.fst,
    (rnd6_x119 oA A n a b c sc L W out i)), L.length = (rnd6_x7 n), (rnd6_x7 n) = (rnd6_x7 n), n = n, n = n, n = n, W.length = n, Bytes L, a < 9223372036854775808, U32 sc, (rnd6_x116 oA A i).length = 54, L.length = (rnd6_x7 n), (rnd6_x7 n) = (rnd6_x7 n), (rnd6_x116 oA A i).length = 54, L.length = (rnd6_x7 n), (rnd6_x7 n) = (rnd6_x7 n), Bytes L, L.length = (rnd6_x7 n), (rnd6_x7 n) = (rnd6_x7 n)] ∧ ((true = true) ∧ Q (X.normal) (s6w off G oA nA cA A F n a b c sc (wrEnd a b c n sc out L l (rnd6_x2 oA A i) (rnd6_x4 oA A i) (rnd6_x116 oA A i)).2.1 (wrEnd a b c n sc out L l (rnd6_x2 oA A i) (rnd6_x4 oA A i) (rnd6_x116 oA A i)).2.2.1 (wrF a b c n sc (L, W, out) (rnd6_x2 oA A i) (rnd6_x4 oA A i) (rnd6_x116 oA A i)).2.2.1 (wrEnd a b c n sc out L l (rnd6_x2 oA A i) (rnd6_x4 oA A i) (rnd6_x116 oA A i)).2.2.2 g (IntKind.i64.wrap (i + 1)) (wrF a b c n sc (L, W, out) (rnd6_x2 oA A i) (rnd6_x4 oA A i) (rnd6_x116 oA A i)).2.1 (wrF a b c n sc (L, W, out) (rnd6_x2 oA A i) (rnd6_x4 oA A i) (rnd6_x116 oA A i)).2.2.2))))
        ))
       ))
      ))
     ) else none)
    ) else none)
   ) else (
   some ((All [] ∧ ((true = true) ∧ Q (X.exit 0) (s6c off G oA nA cA A F n a b c sc L l W out g i))))
   ))
  ) else (
  some ((All [] ∧ ((true = true) ∧ Q (X.exit 0) (s6c off G oA nA cA A F n a b c sc L l W out g i))))
  ))
theorem rnd6_tree (off : Nat) (G : List Int) (oA : Nat) (nA : Nat) (cA : Nat) (A : List Int) (F : List Int) (n : Nat) (a : Int) (b : Int) (c : Int) (sc : Int) (L : List Int) (l : List (Int × Int)) (W : List Bool) (out : Int) (g : Int) (i : Int) (Q : X → S → Prop) : rnd6 off G oA nA cA A F n a b c sc L l W out g i Q = rnd6_t off G oA nA cA A F n a b c sc L l W out g i Q := by kernel_rfl
end Go.Sx
