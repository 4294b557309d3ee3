/-
  Parts of the executor Sx over the model's code (any program), or of this seat's walks: words and proofs that the row's text uses.
-/
import Derived.Test.YtfceckiklfkjkaaGreatR21
import Derived.Test.YtfceckiklfkjkaaGreatSxT
namespace Go.Sx
open Go.Proofs Go.RowKit
set_option maxRecDepth 100000
/-! ### Few f14, slices.Clone f44 over a row of sectors -/
noncomputable def c14 : Code := gB 15
noncomputable def sl14 (cl : Cell) : T RV := match setArgs 10 [.one (.c cl)] 0 .nil some with | some t => t | none => .nil
theorem sl14_ok (cl : Cell) : setArgs 10 [.one (.c cl)] 0 .nil some = some (sl14 cl) := by kernel_rfl
noncomputable def q14w (off n cap : Nat) (L : List Int) (Q : X → S → Prop) : Option Prop := execA Tryz.prog (fun _ => none) 300 10 c14 ⟨sl14 (.sl 0 off n cap), ofL [(0, .win off .u8 L)], 1, []⟩ αT (gcQ 1 [] [] [2] 10 [2] Q)
noncomputable def q14r (op : Option Nat) (n N : Nat) (L : List Int) (Q : X → S → Prop) : Option Prop := execA Tryz.prog (fun _ => none) 300 10 c14 ⟨sl14 (.slu 0 64 0 n), ofL [(0, .row 95 true op (.ints .u8 L N))], 1, []⟩ αT (gcQ 1 [] [] [2] 10 [2] Q)
noncomputable def c44 : Code := gB 74
noncomputable def sl44 (cl : Cell) : T RV := match setArgs 8 [.one (.c cl)] 0 .nil some with | some t => t | none => .nil
theorem sl44_ok (cl : Cell) : setArgs 8 [.one (.c cl)] 0 .nil some = some (sl44 cl) := by kernel_rfl
noncomputable def q44 (op : Option Nat) (n N : Nat) (L : List Int) (Q : X → S → Prop) : Option Prop := execA Tryz.prog (fun _ => none) 300 8 c44 ⟨sl44 (.slu 0 64 0 n), ofL [(0, .row 95 true op (.ints .u8 L N))], 1, []⟩ αT (gcQ 1 [] [] [2] 8 [2] Q)
end Go.Sx

namespace Go.Sx
open Go.Proofs Go.RowKit
set_option maxRecDepth 100000
noncomputable abbrev q14w_x0 (n : Nat) : Int := if 140 < (↑n : Int) then 140 else (↑n : Int)
noncomputable abbrev q14w_x1 (off cap : Nat) : Nat := if cap = 0 then off else off + 0
noncomputable abbrev q14w_x2 (off cap : Nat) : Nat := (q14w_x1 off cap) - off
noncomputable abbrev q14w_x3 (n : Nat) : Nat := (q14w_x0 n).toNat - 0
noncomputable abbrev q14w_x4 (n : Nat) : Nat := (q14w_x3 n) * 64
noncomputable abbrev q14w_x5 (off n cap : Nat) : Nat := (q14w_x2 off cap) + (q14w_x4 n)
noncomputable abbrev q14w_x6 (n : Nat) : Nat := 0 + (q14w_x3 n)
noncomputable abbrev q14w_x7 (n : Nat) : Bool := fits Tryz.prog.types[95] (q14w_x6 n)
noncomputable def q14w_t (off n cap : Nat) (L : List Int) (Q : X → S → Prop) : Option Prop := (bif decide (0 ≤ (q14w_x0 n) ∧ (q14w_x0 n) ≤ (↑cap : Int)) then ( (bif decide (off ≤ (q14w_x1 off cap) ∧ (q14w_x5 off n cap) ≤ L.length) then ( (bif (q14w_x3 n).beq 0 then ( none ) else ( (bif decide (0 < (q14w_x6 n) ∧ (q14w_x7 n) = true) then ( some ((All [] ∧ ((true = true) ∧ Q (X.ret) { sl := (((T.nil.node (some RV.any) T.nil).node (some RV.any) T.nil).node (some RV.any) ((T.nil.node (some RV.any) T.nil).node (some RV.any) T.nil)).node (some RV.any) (((T.nil.node (some RV.any) T.nil).node (some RV.any) T.nil).node (some (RV.one (AV.c (Cell.slu 1 64 0 (q14w_x6 n))))) (T.nil.node (some RV.any) T.nil)), hp := (T.nil.node (some (Blk.row 95 false (some 64) (Body.ints IntKind.u8 (List.take 0 (List.drop 0 (repl z64 0)) ++ List.take (q14w_x4 n) (List.drop (q14w_x2 off cap) L)) (0 + (q14w_x4 n))))) T.nil).node (some (Blk.win off IntKind.u8 L)) T.nil, nx := 2, lg := [] }))) ) else none) )) ) else none) ) else none)
theorem q14w_tree (off n cap : Nat) (L : List Int) (Q : X → S → Prop) : q14w off n cap L Q = q14w_t off n cap L Q := by kernel_rfl
noncomputable abbrev q14r_x0 (n : Nat) : Int := if 140 < (↑n : Int) then 140 else (↑n : Int)
noncomputable abbrev q14r_x1 (n : Nat) : Nat := (q14r_x0 n).toNat - 0
noncomputable abbrev q14r_x2 (n : Nat) : Nat := (q14r_x1 n) * 64
noncomputable abbrev q14r_x3 (n : Nat) : Nat := 0 + (q14r_x2 n)
noncomputable abbrev q14r_x4 (n : Nat) : Nat := 0 + (q14r_x1 n)
noncomputable abbrev q14r_x5 (n : Nat) : Bool := fits Tryz.prog.types[95] (q14r_x4 n)
noncomputable def q14r_t (op : Option Nat) (n N : Nat) (L : List Int) (Q : X → S → Prop) : Option Prop := (bif decide (0 ≤ (q14r_x0 n) ∧ (q14r_x0 n) ≤ (↑n : Int)) then ( (bif decide ((q14r_x1 n) ≠ 0) then ( (bif decide ((q14r_x3 n) ≤ N) then ( (bif (q14r_x1 n).beq 0 then ( none ) else ( (bif decide (0 < (q14r_x4 n) ∧ (q14r_x5 n) = true) then ( some ((All [] ∧ ((true = true) ∧ Q (X.ret) { sl := (((T.nil.node (some RV.any) T.nil).node (some RV.any) T.nil).node (some RV.any) ((T.nil.node (some RV.any) T.nil).node (some RV.any) T.nil)).node (some RV.any) (((T.nil.node (some RV.any) T.nil).node (some RV.any) T.nil).node (some (RV.one (AV.c (Cell.slu 1 64 0 (q14r_x4 n))))) (T.nil.node (some RV.any) T.nil)), hp := (T.nil.node (some (Blk.row 95 false (some 64) (Body.ints IntKind.u8 (List.take 0 (List.drop 0 (repl z64 0)) ++ List.take (q14r_x2 n) (List.drop 0 L)) (q14r_x3 n)))) T.nil).node (some (Blk.row 95 true op (Body.ints IntKind.u8 L N))) T.nil, nx := 2, lg := [] }))) ) else none) )) ) else none) ) else none) ) else none)
theorem q14r_tree (op : Option Nat) (n N : Nat) (L : List Int) (Q : X → S → Prop) : q14r op n N L Q = q14r_t op n N L Q := by kernel_rfl
noncomputable abbrev q44_x0 (n : Nat) : Nat := n * 64
noncomputable abbrev q44_x1 (n : Nat) : Nat := 0 + (q44_x0 n)
noncomputable abbrev q44_x2 (n : Nat) : Nat := 0 + n
noncomputable abbrev q44_x3 (n : Nat) : Bool := fits Tryz.prog.types[95] (q44_x2 n)
noncomputable def q44_t (op : Option Nat) (n N : Nat) (L : List Int) (Q : X → S → Prop) : Option Prop := (bif decide (n ≠ 0) then ( (bif decide ((q44_x1 n) ≤ N) then ( (bif n.beq 0 then ( none ) else ( (bif decide (0 < (q44_x2 n) ∧ (q44_x3 n) = true) then ( some ((All [] ∧ ((true = true) ∧ Q (X.ret) { sl := (((T.nil.node (some RV.any) T.nil).node (some RV.any) T.nil).node (some RV.any) (T.nil.node (some RV.any) T.nil)).node (some RV.any) ((T.nil.node (some RV.any) T.nil).node (some (RV.one (AV.c (Cell.slu 1 64 0 (q44_x2 n))))) (T.nil.node (some RV.any) T.nil)), hp := (T.nil.node (some (Blk.row 95 false (some 64) (Body.ints IntKind.u8 (List.take 0 (List.drop 0 (repl z64 0)) ++ List.take (q44_x0 n) (List.drop 0 L)) (q44_x1 n)))) T.nil).node (some (Blk.row 95 true op (Body.ints IntKind.u8 L N))) T.nil, nx := 2, lg := [] }))) ) else none) )) ) else none) ) else none)
theorem q44_tree (op : Option Nat) (n N : Nat) (L : List Int) (Q : X → S → Prop) : q44 op n N L Q = q44_t op n N L Q := by kernel_rfl

theorem body14_eq : Tryz.f15.body = some c14 := by kernel_rfl
theorem body44_eq : Tryz.f74.body = some c44 := by kernel_rfl
def few (n : Nat) : Nat := min n 140
theorem few_le (n : Nat) : few n ≤ 140 ∧ few n ≤ n := by unfold few; omega
theorem few_ne {n : Nat} (h : n ≠ 0) : few n ≠ 0 := by unfold few; omega
theorem few_few {n : Nat} (h : n ≤ 140) : few n = n := by unfold few; omega
theorem top1 (x : Blk) : Top ⟨.nil, ofL [(0, x)], 1, []⟩ := fun i hi => by
  have hi' : 1 ≤ i := hi
  show (ofL [(0, x)] : T Blk).get i = none
  cases h : (ofL [(0, x)] : T Blk).get i with
  | none => rfl
  | some y => obtain ⟨rfl, _⟩ := one_get h; omega
theorem cl_eq {X : List Int} {k : Nat} : List.take 0 (List.drop 0 (repl z64 0)) ++ List.take (k * 64) X = X.take (64 * k) := by
  show [] ++ List.take (k * 64) X = _
  rw [List.nil_append, Nat.mul_comm]
section
variable {off n cap N : Nat} {L : List Int} {op : Option Nat}
noncomputable abbrev sec2 (x : Blk) (L : List Int) (k : Nat) : T Blk := ofL [(0, x), (1, .row 95 false (some 64) (.ints .u8 (L.take (64 * k)) (64 * k)))]
theorem small14w (hL : L.length = 64 * n) (hc : n ≤ cap) (hn : n ≠ 0) : SmallN Tryz.prog 15 [.one (.c (.sl 0 off n cap))] 1 (ofL [(0, .win off .u8 L)]) 2 (sec2 (.win off .u8 L) L (few n)) (.one (.c (.slu 1 64 0 (few n)))) := by
  have hk := few_le n
  have hk0 := few_ne hn
  refine TO.smallN (fn := Tryz.f15) (c := c14) Tryz.func15 body14_eq [] (top1 _) (sl14_ok _) (TO.tree fit00 (k0 := 1) (keep := [2]) (ord := [2]) rfl (.of_eq (q14w_tree ..) ?_))
  unfold q14w_t
  have x0 : q14w_x0 n = (few n : Int) := by show (if (140 : Int) < (n : Int) then (140 : Int) else (n : Int)) = _; unfold few; split <;> omega
  have x1 : q14w_x1 off cap = off := by show (if cap = 0 then off else off + 0) = off; split <;> rfl
  have x2 : q14w_x2 off cap = 0 := by show q14w_x1 off cap - off = 0; rw [x1]; omega
  have x3 : q14w_x3 n = few n := by show (q14w_x0 n).toNat - 0 = _; rw [x0]; simp
  have x4 : q14w_x4 n = few n * 64 := by show q14w_x3 n * 64 = _; rw [x3]
  have x5 : q14w_x5 off n cap = few n * 64 := by show q14w_x2 off cap + q14w_x4 n = _; rw [x2, x4]; omega
  have x6 : q14w_x6 n = few n := by show 0 + q14w_x3 n = _; rw [x3]; omega
  have x7 : q14w_x7 n = true := by show fits Tryz.prog.types[95]! (q14w_x6 n) = true; rw [x6]; exact fits49 (by omega)
  rw [x0, x1, x3, x4, x5, x6, x7, x2]
  refine .chk (by simp; omega) (.chk (by simp; omega) (.no (beq0 (by omega)) (.chk (by simp; omega) ⟨trivial, rfl, .inr rfl, [.c (.slu 1 64 0 (few n))], rfl, rfl, ?_, rfl⟩)))
  rw [sec2, two_eq, cl_eq, List.drop_zero, Nat.zero_add, Nat.mul_comm (few n) 64]
theorem small14r (hL : L.length = N) (hN : N = 64 * n) (hn : n ≠ 0) : SmallN Tryz.prog 15 [.one (.c (.slu 0 64 0 n))] 1 (ofL [(0, .row 95 true op (.ints .u8 L N))]) 2 (sec2 (.row 95 true op (.ints .u8 L N)) L (few n)) (.one (.c (.slu 1 64 0 (few n)))) := by
  have hk := few_le n
  have hk0 := few_ne hn
  refine TO.smallN (fn := Tryz.f15) (c := c14) Tryz.func15 body14_eq [] (top1 _) (sl14_ok _) (TO.tree fit00 (k0 := 1) (keep := [2]) (ord := [2]) rfl (.of_eq (q14r_tree ..) ?_))
  unfold q14r_t
  have x0 : q14r_x0 n = (few n : Int) := by show (if (140 : Int) < (n : Int) then (140 : Int) else (n : Int)) = _; unfold few; split <;> omega
  have x1 : q14r_x1 n = few n := by show (q14r_x0 n).toNat - 0 = _; rw [x0]; simp
  have x2 : q14r_x2 n = few n * 64 := by show q14r_x1 n * 64 = _; rw [x1]
  have x3 : q14r_x3 n = few n * 64 := by show 0 + q14r_x2 n = _; rw [x2]; omega
  have x4 : q14r_x4 n = few n := by show 0 + q14r_x1 n = _; rw [x1]; omega
  have x5 : q14r_x5 n = true := by show fits Tryz.prog.types[95]! (q14r_x4 n) = true; rw [x4]; exact fits49 (by omega)
  rw [x0, x1, x2, x3, x4, x5]
  refine .chk (by simp; omega) (.chk (by simp; omega) (.chk (by simp; omega) (.no (beq0 (by omega)) (.chk (by simp; omega) ⟨trivial, rfl, .inr rfl, [.c (.slu 1 64 0 (few n))], rfl, rfl, ?_, rfl⟩))))
  rw [sec2, two_eq, cl_eq, List.drop_zero, Nat.mul_comm (few n) 64]
theorem small44 (hL : L.length = N) (hN : N = 64 * n) (hn : n ≠ 0) (h140 : n ≤ 140) : SmallN Tryz.prog 74 [.one (.c (.slu 0 64 0 n))] 1 (ofL [(0, .row 95 true op (.ints .u8 L N))]) 2 (sec2 (.row 95 true op (.ints .u8 L N)) L n) (.one (.c (.slu 1 64 0 n))) := by
  refine TO.smallN (fn := Tryz.f74) (c := c44) Tryz.func74 body44_eq [] (top1 _) (sl44_ok _) (TO.tree fit00 (k0 := 1) (keep := [2]) (ord := [2]) rfl (.of_eq (q44_tree ..) ?_))
  unfold q44_t
  have x0 : q44_x0 n = n * 64 := rfl
  have x1 : q44_x1 n = n * 64 := by show 0 + q44_x0 n = _; rw [x0]; omega
  have x2 : q44_x2 n = n := by show 0 + n = _; omega
  have x3 : q44_x3 n = true := by show fits Tryz.prog.types[95]! (q44_x2 n) = true; rw [x2]; exact fits49 (by omega)
  rw [x1, x2, x3, x0]
  refine .chk (by simp; omega) (.chk (by simp; omega) (.no (beq0 (by omega)) (.chk (by simp; omega) ⟨trivial, rfl, .inr rfl, [.c (.slu 1 64 0 n)], rfl, rfl, ?_, rfl⟩)))
  rw [sec2, two_eq, cl_eq, List.drop_zero, Nat.mul_comm n 64]
end
/-! ### .. as summaries -/
noncomputable def newSec (nx : Nat) (hp : T Blk) (X : List Int) (k : Nat) (ps : List Prop) : Option (RV × T Blk × Nat × List Nat × List Prop) :=
  T.set depth hp nx (some (.row 95 false (some 64) (.ints .u8 X (64 * k)))) fun hp => some (.one (.c (.slu nx 64 0 k)), hp, nx + 1, [], ps)
noncomputable def sumFew : SumA := fun args hp nx => match args with
  | [.one (.c (.sl nm off n cap))] => match hp.get nm with
    | some (.win o .u8 L) => newSec nx hp (L.take (64 * few n)) (few n) [off = o, L.length = 64 * n, n ≤ cap, n ≠ 0]
    | _ => none
  | [.one (.c (.slu nm 64 0 n))] => match getRow hp.get nm with
    | some (95, _, _, .ints .u8 L N) => newSec nx hp L n [L.length = N, N = 64 * n, n ≠ 0, n ≤ 140]
    | _ => none
  | _ => none
noncomputable def sumClone : SumA := fun args hp nx => match args with
  | [.one (.c (.slu nm 64 0 n))] => match getRow hp.get nm with
    | some (95, _, _, .ints .u8 L N) => newSec nx hp L n [L.length = N, N = 64 * n, n ≠ 0, n ≤ 140]
    | _ => none
  | _ => none
theorem newSec_ok {nx : Nat} {hp : T Blk} {L : List Int} {k : Nat} {ps0 : List Prop} {v : RV} {hp' : T Blk} {nx' : Nat} {lg : List Nat} {ps : List Prop} (h : newSec nx hp L k ps0 = some (v, hp', nx', lg, ps)) :
    v = .one (.c (.slu nx 64 0 k)) ∧ nx' = nx + 1 ∧ lg = [] ∧ ps = ps0 ∧ ∀ i, hp'.get i = if i = nx then some (.row 95 false (some 64) (.ints .u8 L (64 * k))) else hp.get i := by
  unfold newSec at h
  obtain ⟨t', h, q⟩ := T.set_ok _ _ _ _ _ _ h
  simp only [Option.some.injEq, Prod.mk.injEq] at h
  obtain ⟨rfl, rfl, rfl, rfl, rfl⟩ := h
  exact ⟨rfl, rfl, rfl, rfl, q⟩
theorem sumFew_ok : SumAOK Tryz.prog 15 sumFew := by
  intro args s v hp nx lg ps ht h hps
  unfold sumFew at h
  split at h <;> try (cases h; done)
  · rename_i nm off n cap
    split at h <;> try (cases h; done)
    rename_i o L hz
    obtain ⟨rfl, rfl, rfl, rfl, q⟩ := newSec_ok h
    obtain ⟨rfl, h1, h2, h3, _⟩ := hps
    exact CallInfo.newOne (z := .win off .u8 L) ht ⟨_, Tryz.func15, rfl⟩ (small14w h1 h2 h3) (by rfl) hz RoOf.win q
  · rename_i nm n
    split at h <;> try (cases h; done)
    rename_i ro op L N hz
    obtain ⟨rfl, rfl, rfl, rfl, q⟩ := newSec_ok h
    obtain ⟨h1, h2, h3, h4, _⟩ := hps
    have := small14r (op := op) h1 h2 h3
    rw [few_few h4, sec2, List.take_of_length_le (by omega)] at this
    exact CallInfo.newOne ht ⟨_, Tryz.func15, rfl⟩ this (by rfl) (getRow_some hz) RoOf.ints q
theorem sumClone_ok : SumAOK Tryz.prog 74 sumClone := by
  intro args s v hp nx lg ps ht h hps
  unfold sumClone at h
  split at h <;> try (cases h; done)
  rename_i nm n
  split at h <;> try (cases h; done)
  rename_i ro op L N hz
  obtain ⟨rfl, rfl, rfl, rfl, q⟩ := newSec_ok h
  obtain ⟨h1, h2, h3, h4, _⟩ := hps
  have := small44 (op := op) h1 h2 h3 h4
  rw [sec2, List.take_of_length_le (by omega)] at this
  exact CallInfo.newOne ht ⟨_, Tryz.func74, rfl⟩ this (by rfl) (getRow_some hz) RoOf.ints q
end Go.Sx
