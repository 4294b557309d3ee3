/-
  Parts of the executor Sx over the model's code (any program), or of this seat's walks: words and proofs that the row's text uses.
-/
import Derived.Test.YtganobhodimjnaaJ4
import Derived.Test.YtganobhodimjnaaJ8
namespace Go.Sx
open Go.Proofs Go.RowKit
set_option maxRecDepth 100000
/-! ### FieldsOnce: f8 -/
noncomputable def sg8 : FuncId → Option SumA := fun f => match f with
  | 12 => some (pureSum fYes) | 20 => some sumIn | 33 => some (sumImg g33) | 34 => some (pureSum fInN) | 35 => some (pureSum fIno) | 36 => some (sumRd g36) | 10 => some (pureSum Fi.fSh) | 43 => some sumFind2 | 77 => some sumCollE | 116 => some sumLenA | _ => none
theorem fit8 : Sx.Fit Try.prog (fun f => (sg8 f).map toSum) := ⟨fit_ng, fit_mixed, SumAOK.sum fun f sm h => by
  unfold sg8 at h
  split at h
  · cases h; exact fYes_ok works28
  · cases h; exact sumIn_ok
  · cases h; exact sum33
  · cases h; exact fInN34.sum ⟨_, Try.func34, rfl⟩
  · cases h; exact fIno35.sum ⟨_, Try.func35, rfl⟩
  · cases h; exact sum36
  · cases h; exact Fi.fSh10_ok.sum ⟨_, Try.func10, rfl⟩
  · cases h; exact sumFind2_ok
  · cases h; exact sumCollE_ok
  · cases h; exact sumLenA_ok
  · cases h⟩
/-- .. where the map has keys -/
noncomputable def sg8n : FuncId → Option SumA := fun f => match f with | 33 => some (sumImg g33) | 50 => some sumSorted | _ => none
theorem fit8n : Sx.Fit Try.prog (fun f => (sg8n f).map toSum) := ⟨fit_ng, fit_mixed, SumAOK.sum fun f sm h => by
  unfold sg8n at h
  split at h
  · cases h; exact sum33
  · cases h; exact sumSorted_ok
  · cases h⟩
noncomputable def c8 : Code := gB 8
abbrev n8 : Nat := 130
noncomputable def args8 (n off cap : Nat) (sc : Int) : List RV := [.one (.c (.sl 0 off n cap)), .one (.c (.int .u32 sc))]
noncomputable def sl8 (n off cap : Nat) (sc : Int) : T RV := match setArgs n8 (args8 n off cap sc) 0 .nil some with | some t => t | none => .nil
theorem sl8_ok (n off cap : Nat) (sc : Int) : setArgs n8 (args8 n off cap sc) 0 .nil some = some (sl8 n off cap sc) := by kernel_rfl
noncomputable abbrev res8 : List ResultVar := Try.f8.results.toList
noncomputable def pre8 (n off cap : Nat) (sc : Int) (L : List Int) (M : S → Prop) (R : X → Option (List AV) → Prop) : Option Prop :=
  execN Try.prog sg8 300 n8 3 c8 ⟨sl8 n off cap sc, ofL [(0, .win off .u8 L)], 1, []⟩ αT (fun x s α => some (All α.ob ∧ match x with | .normal => M (fgt [0, 1, 5, 6] n8 s) | x => R x (resOf Try.prog n8 s res8)))
noncomputable def t8 : Code := tailN 3 c8
section
variable (n off cap : Nat) (sc : Int) (L : List Int) (F : List Int) (m N : Nat) (a b c out : Int) (x6 : Blk)
noncomputable abbrev noB8 : Blk := .row 49 false none (.ints .u8 [] 0)
noncomputable abbrev im8 (m : Nat) (a b c sc out : Int) (nl nw : Nat) : Blk := .row 89 false none (.cells [.int .i64 a, .int .i64 b, .int .i64 c, .slu nl 64 0 m, .int .u32 sc, .map nw, .int .i64 out])
noncomputable abbrev shB8 (a b c : Int) : Blk := .row 23 false none (.cells [.int .i64 a, .int .i64 b, .int .i64 c])
/-- one image is made -/
noncomputable def s8a (e : Int) : S := fgt [0, 1, 5, 6] n8 ⟨ofL [(0, .one (.c (.sl 0 off n cap))), (1, .one (.c (.int .u32 sc))), (5, .one (.c (.ptr 7 0))), (6, .one (.c (.int .i64 e)))], ofL [(0, .win off .u8 L), (1, noB8), (2, secB F N), (3, shB8 a b c), (4, noB8), (5, secB F N), (6, .map []), (7, im8 m a b c sc 0 5 6)], 8, []⟩
noncomputable def mid8 (e : Int) (M : S → Prop) (R : X → Option (List AV) → Prop) : Option Prop :=
  execN Try.prog sg8 300 n8 2 t8 (s8a n off cap sc L F m N a b c e) αT (fun x s α => some (All α.ob ∧ match x with | .normal => M (fgt [5, 7] n8 s) | x => R x (resOf Try.prog n8 s res8)))
/-- none is made -/
noncomputable def s8e (e : Int) : S := fgt [0, 1, 5, 6] n8 ⟨ofL [(0, .one (.c (.sl 0 off n cap))), (1, .one (.c (.int .u32 sc))), (5, .one (.c .ptr0)), (6, .one (.c (.int .i64 e)))], ofL [(0, .win off .u8 L), (1, noB8), (2, secB F N), (3, shB8 a b c)], 4, []⟩
noncomputable def s8z : S := fgt [0, 1, 5, 6] n8 ⟨ofL [(0, .one (.c (.sl 0 off n cap))), (1, .one (.c (.int .u32 sc))), (5, .one (.c .ptr0)), (6, .one (.c (.int .i64 22)))], ofL [(0, .win off .u8 L), (1, noB8), (2, shB8 0 0 0)], 3, []⟩
noncomputable def err8 (e : Int) (M : S → Prop) (R : X → Option (List AV) → Prop) : Option Prop :=
  execN Try.prog sg8 300 n8 2 t8 (s8e n off cap sc L F N a b c e) αT (fun x s α => some (All α.ob ∧ match x with | .normal => M (fgt [5, 7] n8 s) | x => R x (resOf Try.prog n8 s res8)))
noncomputable def zer8 (M : S → Prop) (R : X → Option (List AV) → Prop) : Option Prop :=
  execN Try.prog sg8 300 n8 2 t8 (s8z n off cap sc L) αT (fun x s α => some (All α.ob ∧ match x with | .normal => M (fgt [5, 7] n8 s) | x => R x (resOf Try.prog n8 s res8)))
noncomputable def u8c : Code := tailN 2 t8
variable (G : List Int) (l : List (Int × Int)) (xm : Blk)
noncomputable def hp8 (xm : Blk) (l : List (Nat × Blk)) : T Blk := ofL ([(0, .win off .u8 L), (1, noB8), (2, secB F N), (3, shB8 a b c), (4, noB8), (5, secB G N), (6, xm), (7, im8 m a b c sc out 5 6), (8, noB8), (9, secB F N), (10, shB8 a b c), (11, noB8), (12, secB F N), (13, .map []), (14, im8 m a b c sc 0 12 13)] ++ l)
noncomputable def s8b : S := fgt [5, 7] n8 ⟨ofL [(5, .one (.c (.ptr 7 0))), (7, .one (.c (.ptr 14 0)))], hp8 off sc L F m N a b c 0 F (.map []) [], 15, []⟩
noncomputable def run8 (M : S → Prop) (R : X → Option (List AV) → Prop) : Option Prop :=
  execN Try.prog sg8 300 n8 3 u8c (s8b off sc L F m N a b c) αT (fun x s α => some (All α.ob ∧ match x with | .normal => M (fgt [5, 7, 9, 10] n8 s) | x => R x (resOf Try.prog n8 s res8)))
variable (i o9 : Int)
noncomputable abbrev tl8 : List (Nat × Blk) := [(15, shB8 a b c), (16, shB8 a b c)]
abbrev sv8 : List (Nat × RV) := [(5, .one (.c (.ptr 7 0))), (7, .one (.c (.ptr 14 0))), (9, .one (.c (.int .i64 o9))), (10, .one (.c (.ptr 16 0)))]
noncomputable def s8c : S := fgt [5, 7, 9, 10] n8 ⟨ofL (sv8 o9), hp8 off sc L F m N a b c out G (.mapI none l) (tl8 a b c), 17, []⟩
noncomputable def s8l : S := low n8 17 (fgt [5, 7, 9, 10, 11] n8 ⟨ofL (sv8 o9 ++ [(11, .one (.c (.int .i64 i)))]), hp8 off sc L F m N a b c out G (.mapI none l) (tl8 a b c), 17, []⟩)
noncomputable def v8 : Code := tailN 3 u8c
noncomputable def lp8 : Code := match gR (gL v8) with | .block _ (.loop c) => c | _ => .skip
noncomputable def bd8 : Code := match gL (gR lp8) with | .block _ c => c | _ => .skip
noncomputable def ini8 (Q : X → S → Prop) : Option Prop := execA Try.prog sg8 300 n8 (gL (gL v8)) (s8c off sc L F m N a b c out G l o9) αT (fun x s α => some (All α.ob ∧ (Nat.ble 17 s.nx = true ∧ Q x (low n8 17 (fgt [5, 7, 9, 10, 11] n8 s)))))
noncomputable def rA8 (Q : X → S → Prop) : Option Prop := execA Try.prog sg8 300 n8 (gL lp8) (s8l off sc L F m N a b c out G l i o9) αT (fun x s α => some (All α.ob ∧ (Nat.ble 17 s.nx = true ∧ Q x (low n8 17 (fgt [5, 7, 9, 10, 11] n8 s)))))
noncomputable def rF8 (Q : X → S → Prop) : Option Prop := execA Try.prog sg8 300 n8 (gR (gR lp8)) (s8l off sc L F m N a b c out G l i o9) αT (fun x s α => some (All α.ob ∧ match x with | .ret => False | x => Nat.ble 17 s.nx = true ∧ Q x (low n8 17 (fgt [5, 7, 9, 10, 11] n8 s))))
noncomputable def rB8 (M : S → Prop) : Option Prop := execN Try.prog sg8 300 n8 3 bd8 (s8l off sc L F m N a b c out G l i o9) αT (fun x s α => some (All α.ob ∧ match x with | .normal => M (fgt [5, 7, 9, 10, 11, 12, 14, 15, 16, 17] n8 s) | x => (fun (_ : X) (_ : Option (List AV)) => False) x (resOf Try.prog n8 s res8)))
variable (q1 q2 q3 q4 : Int) (A B D : Fi.Ino9) (ok wk : Bool)
noncomputable abbrev in8 (y : Fi.Ino9) : Blk := .row 28 false none (.cells [.int .u8 y.k, .int .u8 y.l, .int .u32 y.s, .int .u16 y.d0, .int .u16 y.d1, .int .u16 y.d2, .int .u16 y.d3, .int .u16 y.sg, .int .u16 y.db])
noncomputable abbrev tm8 : List (Nat × Blk) := tl8 a b c ++ [(17, .row 73 false none (.cells [.int .i64 q1, .int .i64 q2, .int .i64 q3, .int .i64 q4])), (18, in8 A), (19, in8 B)]
abbrev sm8 : List (Nat × RV) := sv8 o9 ++ [(11, .one (.c (.int .i64 i))), (12, .one (.c (.ptr 17 0))), (14, .one (.c (.ptr 18 0))), (15, .one (.c (.bool ok))), (16, .one (.c (.ptr 19 0)))]
noncomputable def s8m : S := fgt [5, 7, 9, 10, 11, 12, 14, 15, 16, 17] n8 ⟨ofL (sm8 i o9 ok ++ [(17, .one (.c (.bool wk)))]), hp8 off sc L F m N a b c out G (.mapI none l) (tm8 a b c q1 q2 q3 q4 A B), 20, []⟩
noncomputable def x8 : Code := tailN 3 bd8
noncomputable def rC8 (Q : X → S → Prop) : Option Prop := execA Try.prog sg8 300 n8 (gL x8) (s8m off sc L F m N a b c out G l i o9 q1 q2 q3 q4 A B ok wk) αT (fun x s α => some (All α.ob ∧ match x with | .ret => False | x => Q x (fgt [5, 7, 9, 10, 11, 12, 14, 15, 16] n8 s)))
noncomputable def s8k : S := fgt [5, 7, 9, 10, 11, 12, 14, 15, 16] n8 ⟨ofL (sm8 i o9 ok), hp8 off sc L F m N a b c out G (.mapI none l) (tm8 a b c q1 q2 q3 q4 A B), 20, []⟩
noncomputable def rD8 (Q : X → S → Prop) : Option Prop := execA Try.prog sg8 300 n8 (gL (gR x8)) (s8k off sc L F m N a b c out G l i o9 q1 q2 q3 q4 A B ok) αT (fun x s α => some (All α.ob ∧ match x with | .ret => False | x => Q x (fgt [5, 7, 9, 10, 11, 12, 14, 15, 16, 18] n8 s)))
noncomputable def s8j : S := fgt [5, 7, 9, 10, 11, 12, 14, 15, 16, 18] n8 ⟨ofL (sm8 i o9 ok ++ [(18, .one (.c (.ptr 20 0)))]), hp8 off sc L F m N a b c out G (.mapI none l) (tm8 a b c q1 q2 q3 q4 A B ++ [(20, in8 D)]), 21, []⟩
noncomputable def s8i : S := fgt [5, 7, 9, 10, 11] n8 ⟨ofL (sv8 o9 ++ [(11, .one (.c (.int .i64 i)))]), hp8 off sc L F m N a b c out G (.mapI none l) (tm8 a b c q1 q2 q3 q4 A B ++ [(20, in8 D)]), 21, []⟩
noncomputable def rE8 (Q : X → S → Prop) : Option Prop := execA Try.prog sg8 300 n8 (gR (gR x8)) (s8j off sc L F m N a b c out G l i o9 q1 q2 q3 q4 A B D ok) αT (fun x s α => some (All α.ob ∧ match x with | .ret => False | x => Q x (fgt [5, 7, 9, 10, 11] n8 s)))
noncomputable def fin8a (R : X → Option (List AV) → Prop) : Option Prop := execA Try.prog sg8 300 n8 (gR v8) (s8l off sc L F m N a b c out G l i o9) αT (fun x s α => some (All α.ob ∧ R x (resOf Try.prog n8 s res8)))
noncomputable def fin8b (R : X → Option (List AV) → Prop) : Option Prop := execA Try.prog sg8n 300 n8 (gR v8) (s8l off sc L F m N a b c out G l i o9) αT (fun x s α => some (All α.ob ∧ R x (resOf Try.prog n8 s res8)))
end
end Go.Sx

namespace Go.Sx
open Go.Proofs Go.RowKit
set_option maxRecDepth 100000
noncomputable abbrev pre8_x0 (n : Nat) : Int := if 140 < (↑n : Int) then 140 else (↑n : Int)
noncomputable abbrev pre8_x1 (off : Nat) (cap : Nat) : Nat := if cap = 0 then off else off + 0
noncomputable abbrev pre8_x2 (off : Nat) (cap : Nat) : Nat := (pre8_x1 off cap) - off
noncomputable abbrev pre8_x3 (n : Nat) : Nat := (pre8_x0 n).toNat - 0
noncomputable abbrev pre8_x4 (n : Nat) : Nat := (pre8_x3 n) * 64
noncomputable abbrev pre8_x5 (n : Nat) (off : Nat) (cap : Nat) : Nat := (pre8_x2 off cap) + (pre8_x4 n)
noncomputable abbrev pre8_x6 (n : Nat) : Nat := 0 + (pre8_x3 n)
noncomputable abbrev pre8_x7 (n : Nat) : Bool := fits Try.prog.types[49] (pre8_x6 n)
noncomputable abbrev pre8_x8 (n : Nat) (off : Nat) (cap : Nat) (L : List Int) : List Int := List.take 0 (List.drop 0 (repl z64 0)) ++ List.take (pre8_x4 n) (List.drop (pre8_x2 off cap) L)
noncomputable abbrev pre8_x9 (n : Nat) (off : Nat) (cap : Nat) (L : List Int) : Int := fndE (pre8_x8 n off cap L) (pre8_x6 n)
noncomputable abbrev pre8_x10 (n : Nat) : Nat := 0 + (pre8_x4 n)
noncomputable abbrev pre8_x11 (n : Nat) : Nat := (pre8_x6 n) * 64
noncomputable abbrev pre8_x12 (n : Nat) : Nat := 0 + (pre8_x11 n)
noncomputable abbrev pre8_x13 (n : Nat) : Nat := 0 + (pre8_x6 n)
noncomputable abbrev pre8_x14 (n : Nat) : Bool := fits Try.prog.types[49] (pre8_x13 n)
noncomputable def pre8_t (n : Nat) (off : Nat) (cap : Nat) (sc : Int) (L : List Int) (M : S → Prop) (R : X → Option (List AV) → Prop) : Option Prop :=
 (bif decide (0 ≤ (pre8_x0 n) ∧ (pre8_x0 n) ≤ (↑cap : Int)) then (
  (bif decide (off ≤ (pre8_x1 off cap) ∧ (pre8_x5 n off cap) ≤ L.length) then (
   (bif (pre8_x3 n).beq 0 then (
    some ((All [] ∧ M (fgt [0, 1, 5, 6] 130 ⟨ofL [(0, RV.one (AV.c (Cell.sl 0 off n cap))), (1, RV.one (AV.c (Cell.int IntKind.u32 sc))), (5, RV.one (AV.c Cell.ptr0)), (6, RV.one (AV.c (Cell.int IntKind.i64 22)))], ofL [(0, Blk.win off IntKind.u8 L), (1, Blk.row 49 false none (Body.ints IntKind.u8 [] 0)), (2, Blk.row 23 false none (Body.cells [Cell.int IntKind.i64 0, Cell.int IntKind.i64 0, Cell.int IntKind.i64 0]))], 3, []⟩)))
    ) else (
    (bif decide (0 < (pre8_x6 n) ∧ (pre8_x7 n) = true) then (
     (bif (pre8_x9 n off cap L) != 0 then (
      some ((All [(pre8_x8 n off cap L).length = (pre8_x10 n), (pre8_x10 n) = 64 * (pre8_x6 n)] ∧ M (fgt [0, 1, 5, 6] 130 ⟨ofL [(0, RV.one (AV.c (Cell.sl 0 off n cap))), (1, RV.one (AV.c (Cell.int IntKind.u32 sc))), (5, RV.one (AV.c Cell.ptr0)), (6, RV.one (AV.c (Cell.int IntKind.i64 (pre8_x9 n off cap L))))], ofL [(0, Blk.win off IntKind.u8 L), (1, Blk.row 49 false none (Body.ints IntKind.u8 [] 0)), (2, Blk.row 49 false (some 64) (Body.ints IntKind.u8 (pre8_x8 n off cap L) (pre8_x10 n))), (3, Blk.row 23 false none
  (Body.cells
    [Cell.int IntKind.i64 (fndG (pre8_x8 n off cap L) (pre8_x6 n) 4),
      Cell.int IntKind.i64 (fndG (pre8_x8 n off cap L) (pre8_x6 n) 6),
      Cell.int IntKind.i64 (fndG (pre8_x8 n off cap L) (pre8_x6 n) 8)]))], 4, []⟩)))
      ) else (
      (bif decide ((pre8_x6 n) ≠ 0) then (
       (bif decide ((pre8_x12 n) ≤ (pre8_x10 n)) then (
        (bif (pre8_x6 n).beq 0 then (
         some ((All [(pre8_x8 n off cap L).length = (pre8_x10 n), (pre8_x10 n) = 64 * (pre8_x6 n)] ∧ M (fgt [0, 1, 5, 6] 130 ⟨ofL [(0, RV.one (AV.c (Cell.sl 0 off n cap))), (1, RV.one (AV.c (Cell.int IntKind.u32 sc))), (5, RV.one (AV.c (Cell.ptr 6 0))), (6, RV.one (AV.c (Cell.int IntKind.i64 (pre8_x9 n off cap L))))], ofL [(0, Blk.win off IntKind.u8 L), (1, Blk.row 49 false none (Body.ints IntKind.u8 [] 0)), (2, Blk.row 49 false (some 64) (Body.ints IntKind.u8 (pre8_x8 n off cap L) (pre8_x10 n))), (3, Blk.row 23 false none
  (Body.cells
    [Cell.int IntKind.i64 (fndG (pre8_x8 n off cap L) (pre8_x6 n) 4),
      Cell.int IntKind.i64 (fndG (pre8_x8 n off cap L) (pre8_x6 n) 6),
      Cell.int IntKind.i64 (fndG (pre8_x8 n off cap L) (pre8_x6 n) 8)])), (4, Blk.row 49 false none (Body.ints IntKind.u8 [] 0)), (5, Blk.map []), (6, Blk.row 89 false none
  (Body.cells
    [Cell.int IntKind.i64 (fndG (pre8_x8 n off cap L) (pre8_x6 n) 4),
      Cell.int IntKind.i64 (fndG (pre8_x8 n off cap L) (pre8_x6 n) 6),
      Cell.int IntKind.i64 (fndG (pre8_x8 n off cap L) (pre8_x6 n) 8), Cell.sl 4 0 0 0, Cell.int IntKind.u32 sc,
      Cell.map 5, Cell.int IntKind.i64 0]))], 7, []⟩)))
         ) else (
         (bif decide (0 < (pre8_x13 n) ∧ (pre8_x14 n) = true) then (
          some ((All [(pre8_x8 n off cap L).length = (pre8_x10 n), (pre8_x10 n) = 64 * (pre8_x6 n)] ∧ M (fgt [0, 1, 5, 6] 130 ⟨ofL [(0, RV.one (AV.c (Cell.sl 0 off n cap))), (1, RV.one (AV.c (Cell.int IntKind.u32 sc))), (5, RV.one (AV.c (Cell.ptr 7 0))), (6, RV.one (AV.c (Cell.int IntKind.i64 (pre8_x9 n off cap L))))], ofL [(0, Blk.win off IntKind.u8 L), (1, Blk.row 49 false none (Body.ints IntKind.u8 [] 0)), (2, Blk.row 49 false (some 64) (Body.ints IntKind.u8 (pre8_x8 n off cap L) (pre8_x10 n))), (3, Blk.row 23 false none
  (Body.cells
    [Cell.int IntKind.i64 (fndG (pre8_x8 n off cap L) (pre8_x6 n) 4),
      Cell.int IntKind.i64 (fndG (pre8_x8 n off cap L) (pre8_x6 n) 6),
      Cell.int IntKind.i64 (fndG (pre8_x8 n off cap L) (pre8_x6 n) 8)])), (4, Blk.row 49 false none (Body.ints IntKind.u8 [] 0)), (5, Blk.row 49 false (some 64)
  (Body.ints IntKind.u8
    (List.take 0 (List.drop 0 (repl z64 0)) ++ List.take (pre8_x11 n) (List.drop 0 (pre8_x8 n off cap L)))
    (pre8_x12 n))), (6, Blk.map []), (7, Blk.row 89 false none
  (Body.cells
    [Cell.int IntKind.i64 (fndG (pre8_x8 n off cap L) (pre8_x6 n) 4),
      Cell.int IntKind.i64 (fndG (pre8_x8 n off cap L) (pre8_x6 n) 6),
      Cell.int IntKind.i64 (fndG (pre8_x8 n off cap L) (pre8_x6 n) 8), Cell.slu 5 64 0 (pre8_x13 n),
      Cell.int IntKind.u32 sc, Cell.map 6, Cell.int IntKind.i64 0]))], 8, []⟩)))
          ) else none)
         ))
        ) else none)
       ) else none)
      ))
     ) else none)
    ))
   ) else none)
  ) else none)
theorem pre8_tree (n : Nat) (off : Nat) (cap : Nat) (sc : Int) (L : List Int) (M : S → Prop) (R : X → Option (List AV) → Prop) : pre8 n off cap sc L M R = pre8_t n off cap sc L M R := by kernel_rfl
noncomputable abbrev mid8_x0 (n : Nat) : Int := if 140 < (↑n : Int) then 140 else (↑n : Int)
noncomputable abbrev mid8_x1 (off : Nat) (cap : Nat) : Nat := if cap = 0 then off else off + 0
noncomputable abbrev mid8_x2 (off : Nat) (cap : Nat) : Nat := (mid8_x1 off cap) - off
noncomputable abbrev mid8_x3 (n : Nat) : Nat := (mid8_x0 n).toNat - 0
noncomputable abbrev mid8_x4 (n : Nat) : Nat := (mid8_x3 n) * 64
noncomputable abbrev mid8_x5 (n : Nat) (off : Nat) (cap : Nat) : Nat := (mid8_x2 off cap) + (mid8_x4 n)
noncomputable abbrev mid8_x6 (e : Int) : Bool := e != 0
noncomputable abbrev mid8_x7 (n : Nat) : Nat := 0 + (mid8_x3 n)
noncomputable abbrev mid8_x8 (n : Nat) : Bool := fits Try.prog.types[49] (mid8_x7 n)
noncomputable abbrev mid8_x9 (n : Nat) (off : Nat) (cap : Nat) (L : List Int) : List Int := List.take 0 (List.drop 0 (repl z64 0)) ++ List.take (mid8_x4 n) (List.drop (mid8_x2 off cap) L)
noncomputable abbrev mid8_x10 (n : Nat) (off : Nat) (cap : Nat) (L : List Int) : Int := fndE (mid8_x9 n off cap L) (mid8_x7 n)
noncomputable abbrev mid8_x11 (n : Nat) (off : Nat) (cap : Nat) (L : List Int) : Bool := (mid8_x10 n off cap L) != 0
noncomputable abbrev mid8_x12 (n : Nat) : Nat := 0 + (mid8_x4 n)
noncomputable abbrev mid8_x13 (n : Nat) : Nat := (mid8_x7 n) * 64
noncomputable abbrev mid8_x14 (n : Nat) : Nat := 0 + (mid8_x13 n)
noncomputable abbrev mid8_x15 (n : Nat) : Nat := 0 + (mid8_x7 n)
noncomputable abbrev mid8_x16 (n : Nat) : Bool := fits Try.prog.types[49] (mid8_x15 n)
noncomputable def mid8_t (n : Nat) (off : Nat) (cap : Nat) (sc : Int) (L : List Int) (F : List Int) (m : Nat) (N : Nat) (a : Int) (b : Int) (c : Int) (e : Int) (M : S → Prop) (R : X → Option (List AV) → Prop) : Option Prop :=
 (bif decide (0 ≤ (mid8_x0 n) ∧ (mid8_x0 n) ≤ (↑cap : Int)) then (
  (bif decide (off ≤ (mid8_x1 off cap) ∧ (mid8_x5 n off cap) ≤ L.length) then (
   (bif (mid8_x3 n).beq 0 then (
    (bif (mid8_x6 e) then (
     some ((All [] ∧ R (X.ret) (some [AV.c (Cell.bool (e == 22))])))
     ) else (
     some ((All [] ∧ R (X.ret) (some [AV.c (Cell.bool (e == 22))])))
     ))
    ) else (
    (bif decide (0 < (mid8_x7 n) ∧ (mid8_x8 n) = true) then (
     (bif (mid8_x11 n off cap L) then (
      (bif (mid8_x6 e) then (
       some ((All [(mid8_x9 n off cap L).length = (mid8_x12 n), (mid8_x12 n) = 64 * (mid8_x7 n)] ∧ R (X.ret) (some [AV.c (Cell.bool (e == (mid8_x10 n off cap L)))])))
       ) else (
       (bif (mid8_x11 n off cap L) then (
        some ((All [(mid8_x9 n off cap L).length = (mid8_x12 n), (mid8_x12 n) = 64 * (mid8_x7 n)] ∧ R (X.ret) (some [AV.c (Cell.bool (e == (mid8_x10 n off cap L)))])))
        ) else (
        some ((All [(mid8_x9 n off cap L).length = (mid8_x12 n), (mid8_x12 n) = 64 * (mid8_x7 n)] ∧ M (fgt [5, 7] 130 ⟨ofL [(5, RV.one (AV.c (Cell.ptr 7 0))), (7, RV.one (AV.c Cell.ptr0))], ofL [(0, Blk.win off IntKind.u8 L), (1, Blk.row 49 false none (Body.ints IntKind.u8 [] 0)), (2, Blk.row 49 false (some 64) (Body.ints IntKind.u8 F N)), (3, Blk.row 23 false none (Body.cells [Cell.int IntKind.i64 a, Cell.int IntKind.i64 b, Cell.int IntKind.i64 c])), (4, Blk.row 49 false none (Body.ints IntKind.u8 [] 0)), (5, Blk.row 49 false (some 64) (Body.ints IntKind.u8 F N)), (6, Blk.map []), (7, Blk.row 89 false none
  (Body.cells
    [Cell.int IntKind.i64 a, Cell.int IntKind.i64 b, Cell.int IntKind.i64 c, Cell.slu 5 64 0 m, Cell.int IntKind.u32 sc,
      Cell.map 6, Cell.int IntKind.i64 0])), (8, Blk.row 49 false none (Body.ints IntKind.u8 [] 0)), (9, Blk.row 49 false (some 64) (Body.ints IntKind.u8 (mid8_x9 n off cap L) (mid8_x12 n))), (10, Blk.row 23 false none
  (Body.cells
    [Cell.int IntKind.i64 (fndG (mid8_x9 n off cap L) (mid8_x7 n) 4),
      Cell.int IntKind.i64 (fndG (mid8_x9 n off cap L) (mid8_x7 n) 6),
      Cell.int IntKind.i64 (fndG (mid8_x9 n off cap L) (mid8_x7 n) 8)]))], 11, []⟩)))
        ))
       ))
      ) else (
      (bif decide ((mid8_x7 n) ≠ 0) then (
       (bif decide ((mid8_x14 n) ≤ (mid8_x12 n)) then (
        (bif (mid8_x7 n).beq 0 then (
         (bif (mid8_x6 e) then (
          some ((All [(mid8_x9 n off cap L).length = (mid8_x12 n), (mid8_x12 n) = 64 * (mid8_x7 n)] ∧ R (X.ret) (some [AV.c (Cell.bool (e == (mid8_x10 n off cap L)))])))
          ) else (
          (bif (mid8_x11 n off cap L) then (
           some ((All [(mid8_x9 n off cap L).length = (mid8_x12 n), (mid8_x12 n) = 64 * (mid8_x7 n)] ∧ R (X.ret) (some [AV.c (Cell.bool (e == (mid8_x10 n off cap L)))])))
           ) else (
           some ((All [(mid8_x9 n off cap L).length = (mid8_x12 n), (mid8_x12 n) = 64 * (mid8_x7 n)] ∧ M (fgt [5, 7] 130 ⟨ofL [(5, RV.one (AV.c (Cell.ptr 7 0))), (7, RV.one (AV.c (Cell.ptr 13 0)))], ofL [(0, Blk.win off IntKind.u8 L), (1, Blk.row 49 false none (Body.ints IntKind.u8 [] 0)), (2, Blk.row 49 false (some 64) (Body.ints IntKind.u8 F N)), (3, Blk.row 23 false none (Body.cells [Cell.int IntKind.i64 a, Cell.int IntKind.i64 b, Cell.int IntKind.i64 c])), (4, Blk.row 49 false none (Body.ints IntKind.u8 [] 0)), (5, Blk.row 49 false (some 64) (Body.ints IntKind.u8 F N)), (6, Blk.map []), (7, Blk.row 89 false none
  (Body.cells
    [Cell.int IntKind.i64 a, Cell.int IntKind.i64 b, Cell.int IntKind.i64 c, Cell.slu 5 64 0 m, Cell.int IntKind.u32 sc,
      Cell.map 6, Cell.int IntKind.i64 0])), (8, Blk.row 49 false none (Body.ints IntKind.u8 [] 0)), (9, Blk.row 49 false (some 64) (Body.ints IntKind.u8 (mid8_x9 n off cap L) (mid8_x12 n))), (10, Blk.row 23 false none
  (Body.cells
    [Cell.int IntKind.i64 (fndG (mid8_x9 n off cap L) (mid8_x7 n) 4),
      Cell.int IntKind.i64 (fndG (mid8_x9 n off cap L) (mid8_x7 n) 6),
      Cell.int IntKind.i64 (fndG (mid8_x9 n off cap L) (mid8_x7 n) 8)])), (11, Blk.row 49 false none (Body.ints IntKind.u8 [] 0)), (12, Blk.map []), (13, Blk.row 89 false none
  (Body.cells
    [Cell.int IntKind.i64 (fndG (mid8_x9 n off cap L) (mid8_x7 n) 4),
      Cell.int IntKind.i64 (fndG (mid8_x9 n off cap L) (mid8_x7 n) 6),
      Cell.int IntKind.i64 (fndG (mid8_x9 n off cap L) (mid8_x7 n) 8), Cell.sl 11 0 0 0, Cell.int IntKind.u32 sc,
      Cell.map 12, Cell.int IntKind.i64 0]))], 14, []⟩)))
           ))
          ))
         ) else (
         (bif decide (0 < (mid8_x15 n) ∧ (mid8_x16 n) = true) then (
          (bif (mid8_x6 e) then (
           some ((All [(mid8_x9 n off cap L).length = (mid8_x12 n), (mid8_x12 n) = 64 * (mid8_x7 n)] ∧ R (X.ret) (some [AV.c (Cell.bool (e == (mid8_x10 n off cap L)))])))
           ) else (
           (bif (mid8_x11 n off cap L) then (
            some ((All [(mid8_x9 n off cap L).length = (mid8_x12 n), (mid8_x12 n) = 64 * (mid8_x7 n)] ∧ R (X.ret) (some [AV.c (Cell.bool (e == (mid8_x10 n off cap L)))])))
            ) else (
            some ((All [(mid8_x9 n off cap L).length = (mid8_x12 n), (mid8_x12 n) = 64 * (mid8_x7 n)] ∧ M (fgt [5, 7] 130 ⟨ofL [(5, RV.one (AV.c (Cell.ptr 7 0))), (7, RV.one (AV.c (Cell.ptr 14 0)))], ofL [(0, Blk.win off IntKind.u8 L), (1, Blk.row 49 false none (Body.ints IntKind.u8 [] 0)), (2, Blk.row 49 false (some 64) (Body.ints IntKind.u8 F N)), (3, Blk.row 23 false none (Body.cells [Cell.int IntKind.i64 a, Cell.int IntKind.i64 b, Cell.int IntKind.i64 c])), (4, Blk.row 49 false none (Body.ints IntKind.u8 [] 0)), (5, Blk.row 49 false (some 64) (Body.ints IntKind.u8 F N)), (6, Blk.map []), (7, Blk.row 89 false none
  (Body.cells
    [Cell.int IntKind.i64 a, Cell.int IntKind.i64 b, Cell.int IntKind.i64 c, Cell.slu 5 64 0 m, Cell.int IntKind.u32 sc,
      Cell.map 6, Cell.int IntKind.i64 0])), (8, Blk.row 49 false none (Body.ints IntKind.u8 [] 0)), (9, Blk.row 49 false (some 64) (Body.ints IntKind.u8 (mid8_x9 n off cap L) (mid8_x12 n))), (10, Blk.row 23 false none
  (Body.cells
    [Cell.int IntKind.i64 (fndG (mid8_x9 n off cap L) (mid8_x7 n) 4),
      Cell.int IntKind.i64 (fndG (mid8_x9 n off cap L) (mid8_x7 n) 6),
      Cell.int IntKind.i64 (fndG (mid8_x9 n off cap L) (mid8_x7 n) 8)])), (11, Blk.row 49 false none (Body.ints IntKind.u8 [] 0)), (12, Blk.row 49 false (some 64)
  (Body.ints IntKind.u8
    (List.take 0 (List.drop 0 (repl z64 0)) ++ List.take (mid8_x13 n) (List.drop 0 (mid8_x9 n off cap L)))
    (mid8_x14 n))), (13, Blk.map []), (14, Blk.row 89 false none
  (Body.cells
    [Cell.int IntKind.i64 (fndG (mid8_x9 n off cap L) (mid8_x7 n) 4),
      Cell.int IntKind.i64 (fndG (mid8_x9 n off cap L) (mid8_x7 n) 6),
      Cell.int IntKind.i64 (fndG (mid8_x9 n off cap L) (mid8_x7 n) 8), Cell.slu 12 64 0 (mid8_x15 n),
      Cell.int IntKind.u32 sc, Cell.map 13, Cell.int IntKind.i64 0]))], 15, []⟩)))
            ))
           ))
          ) else none)
         ))
        ) else none)
       ) else none)
      ))
     ) else none)
    ))
   ) else none)
  ) else none)
theorem mid8_tree (n : Nat) (off : Nat) (cap : Nat) (sc : Int) (L : List Int) (F : List Int) (m : Nat) (N : Nat) (a : Int) (b : Int) (c : Int) (e : Int) (M : S → Prop) (R : X → Option (List AV) → Prop) : mid8 n off cap sc L F m N a b c e M R = mid8_t n off cap sc L F m N a b c e M R := by kernel_rfl
noncomputable abbrev err8_x0 (n : Nat) : Int := if 140 < (↑n : Int) then 140 else (↑n : Int)
noncomputable abbrev err8_x1 (off : Nat) (cap : Nat) : Nat := if cap = 0 then off else off + 0
noncomputable abbrev err8_x2 (off : Nat) (cap : Nat) : Nat := (err8_x1 off cap) - off
noncomputable abbrev err8_x3 (n : Nat) : Nat := (err8_x0 n).toNat - 0
noncomputable abbrev err8_x4 (n : Nat) : Nat := (err8_x3 n) * 64
noncomputable abbrev err8_x5 (n : Nat) (off : Nat) (cap : Nat) : Nat := (err8_x2 off cap) + (err8_x4 n)
noncomputable abbrev err8_x6 (e : Int) : Bool := e != 0
noncomputable abbrev err8_x7 (n : Nat) : Nat := 0 + (err8_x3 n)
noncomputable abbrev err8_x8 (n : Nat) : Bool := fits Try.prog.types[49] (err8_x7 n)
noncomputable abbrev err8_x9 (n : Nat) (off : Nat) (cap : Nat) (L : List Int) : List Int := List.take 0 (List.drop 0 (repl z64 0)) ++ List.take (err8_x4 n) (List.drop (err8_x2 off cap) L)
noncomputable abbrev err8_x10 (n : Nat) (off : Nat) (cap : Nat) (L : List Int) : Int := fndE (err8_x9 n off cap L) (err8_x7 n)
noncomputable abbrev err8_x11 (n : Nat) (off : Nat) (cap : Nat) (L : List Int) : Bool := (err8_x10 n off cap L) != 0
noncomputable abbrev err8_x12 (n : Nat) : Nat := 0 + (err8_x4 n)
noncomputable abbrev err8_x13 (n : Nat) : Nat := (err8_x7 n) * 64
noncomputable abbrev err8_x14 (n : Nat) : Nat := 0 + (err8_x13 n)
noncomputable abbrev err8_x15 (n : Nat) : Nat := 0 + (err8_x7 n)
noncomputable abbrev err8_x16 (n : Nat) : Bool := fits Try.prog.types[49] (err8_x15 n)
noncomputable def err8_t (n : Nat) (off : Nat) (cap : Nat) (sc : Int) (L : List Int) (F : List Int) (N : Nat) (a : Int) (b : Int) (c : Int) (e : Int) (M : S → Prop) (R : X → Option (List AV) → Prop) : Option Prop :=
 (bif decide (0 ≤ (err8_x0 n) ∧ (err8_x0 n) ≤ (↑cap : Int)) then (
  (bif decide (off ≤ (err8_x1 off cap) ∧ (err8_x5 n off cap) ≤ L.length) then (
   (bif (err8_x3 n).beq 0 then (
    (bif (err8_x6 e) then (
     some ((All [] ∧ R (X.ret) (some [AV.c (Cell.bool (e == 22))])))
     ) else (
     some ((All [] ∧ R (X.ret) (some [AV.c (Cell.bool (e == 22))])))
     ))
    ) else (
    (bif decide (0 < (err8_x7 n) ∧ (err8_x8 n) = true) then (
     (bif (err8_x11 n off cap L) then (
      (bif (err8_x6 e) then (
       some ((All [(err8_x9 n off cap L).length = (err8_x12 n), (err8_x12 n) = 64 * (err8_x7 n)] ∧ R (X.ret) (some [AV.c (Cell.bool (e == (err8_x10 n off cap L)))])))
       ) else (
       (bif (err8_x11 n off cap L) then (
        some ((All [(err8_x9 n off cap L).length = (err8_x12 n), (err8_x12 n) = 64 * (err8_x7 n)] ∧ R (X.ret) (some [AV.c (Cell.bool (e == (err8_x10 n off cap L)))])))
        ) else (
        some ((All [(err8_x9 n off cap L).length = (err8_x12 n), (err8_x12 n) = 64 * (err8_x7 n)] ∧ M (fgt [5, 7] 130 ⟨ofL [(5, RV.one (AV.c Cell.ptr0)), (7, RV.one (AV.c Cell.ptr0))], ofL [(0, Blk.win off IntKind.u8 L), (1, Blk.row 49 false none (Body.ints IntKind.u8 [] 0)), (2, Blk.row 49 false (some 64) (Body.ints IntKind.u8 F N)), (3, Blk.row 23 false none (Body.cells [Cell.int IntKind.i64 a, Cell.int IntKind.i64 b, Cell.int IntKind.i64 c])), (4, Blk.row 49 false none (Body.ints IntKind.u8 [] 0)), (5, Blk.row 49 false (some 64) (Body.ints IntKind.u8 (err8_x9 n off cap L) (err8_x12 n))), (6, Blk.row 23 false none
  (Body.cells
    [Cell.int IntKind.i64 (fndG (err8_x9 n off cap L) (err8_x7 n) 4),
      Cell.int IntKind.i64 (fndG (err8_x9 n off cap L) (err8_x7 n) 6),
      Cell.int IntKind.i64 (fndG (err8_x9 n off cap L) (err8_x7 n) 8)]))], 7, []⟩)))
        ))
       ))
      ) else (
      (bif decide ((err8_x7 n) ≠ 0) then (
       (bif decide ((err8_x14 n) ≤ (err8_x12 n)) then (
        (bif (err8_x7 n).beq 0 then (
         (bif (err8_x6 e) then (
          some ((All [(err8_x9 n off cap L).length = (err8_x12 n), (err8_x12 n) = 64 * (err8_x7 n)] ∧ R (X.ret) (some [AV.c (Cell.bool (e == (err8_x10 n off cap L)))])))
          ) else (
          (bif (err8_x11 n off cap L) then (
           some ((All [(err8_x9 n off cap L).length = (err8_x12 n), (err8_x12 n) = 64 * (err8_x7 n)] ∧ R (X.ret) (some [AV.c (Cell.bool (e == (err8_x10 n off cap L)))])))
           ) else (
           some ((All [(err8_x9 n off cap L).length = (err8_x12 n), (err8_x12 n) = 64 * (err8_x7 n)] ∧ M (fgt [5, 7] 130 ⟨ofL [(5, RV.one (AV.c Cell.ptr0)), (7, RV.one (AV.c (Cell.ptr 9 0)))], ofL [(0, Blk.win off IntKind.u8 L), (1, Blk.row 49 false none (Body.ints IntKind.u8 [] 0)), (2, Blk.row 49 false (some 64) (Body.ints IntKind.u8 F N)), (3, Blk.row 23 false none (Body.cells [Cell.int IntKind.i64 a, Cell.int IntKind.i64 b, Cell.int IntKind.i64 c])), (4, Blk.row 49 false none (Body.ints IntKind.u8 [] 0)), (5, Blk.row 49 false (some 64) (Body.ints IntKind.u8 (err8_x9 n off cap L) (err8_x12 n))), (6, Blk.row 23 false none
  (Body.cells
    [Cell.int IntKind.i64 (fndG (err8_x9 n off cap L) (err8_x7 n) 4),
      Cell.int IntKind.i64 (fndG (err8_x9 n off cap L) (err8_x7 n) 6),
      Cell.int IntKind.i64 (fndG (err8_x9 n off cap L) (err8_x7 n) 8)])), (7, Blk.row 49 false none (Body.ints IntKind.u8 [] 0)), (8, Blk.map []), (9, Blk.row 89 false none
  (Body.cells
    [Cell.int IntKind.i64 (fndG (err8_x9 n off cap L) (err8_x7 n) 4),
      Cell.int IntKind.i64 (fndG (err8_x9 n off cap L) (err8_x7 n) 6),
      Cell.int IntKind.i64 (fndG (err8_x9 n off cap L) (err8_x7 n) 8), Cell.sl 7 0 0 0, Cell.int IntKind.u32 sc,
      Cell.map 8, Cell.int IntKind.i64 0]))], 10, []⟩)))
           ))
          ))
         ) else (
         (bif decide (0 < (err8_x15 n) ∧ (err8_x16 n) = true) then (
          (bif (err8_x6 e) then (
           some ((All [(err8_x9 n off cap L).length = (err8_x12 n), (err8_x12 n) = 64 * (err8_x7 n)] ∧ R (X.ret) (some [AV.c (Cell.bool (e == (err8_x10 n off cap L)))])))
           ) else (
           (bif (err8_x11 n off cap L) then (
            some ((All [(err8_x9 n off cap L).length = (err8_x12 n), (err8_x12 n) = 64 * (err8_x7 n)] ∧ R (X.ret) (some [AV.c (Cell.bool (e == (err8_x10 n off cap L)))])))
            ) else (
            some ((All [(err8_x9 n off cap L).length = (err8_x12 n), (err8_x12 n) = 64 * (err8_x7 n)] ∧ M (fgt [5, 7] 130 ⟨ofL [(5, RV.one (AV.c Cell.ptr0)), (7, RV.one (AV.c (Cell.ptr 10 0)))], ofL [(0, Blk.win off IntKind.u8 L), (1, Blk.row 49 false none (Body.ints IntKind.u8 [] 0)), (2, Blk.row 49 false (some 64) (Body.ints IntKind.u8 F N)), (3, Blk.row 23 false none (Body.cells [Cell.int IntKind.i64 a, Cell.int IntKind.i64 b, Cell.int IntKind.i64 c])), (4, Blk.row 49 false none (Body.ints IntKind.u8 [] 0)), (5, Blk.row 49 false (some 64) (Body.ints IntKind.u8 (err8_x9 n off cap L) (err8_x12 n))), (6, Blk.row 23 false none
  (Body.cells
    [Cell.int IntKind.i64 (fndG (err8_x9 n off cap L) (err8_x7 n) 4),
      Cell.int IntKind.i64 (fndG (err8_x9 n off cap L) (err8_x7 n) 6),
      Cell.int IntKind.i64 (fndG (err8_x9 n off cap L) (err8_x7 n) 8)])), (7, Blk.row 49 false none (Body.ints IntKind.u8 [] 0)), (8, Blk.row 49 false (some 64)
  (Body.ints IntKind.u8
    (List.take 0 (List.drop 0 (repl z64 0)) ++ List.take (err8_x13 n) (List.drop 0 (err8_x9 n off cap L)))
    (err8_x14 n))), (9, Blk.map []), (10, Blk.row 89 false none
  (Body.cells
    [Cell.int IntKind.i64 (fndG (err8_x9 n off cap L) (err8_x7 n) 4),
      Cell.int IntKind.i64 (fndG (err8_x9 n off cap L) (err8_x7 n) 6),
      Cell.int IntKind.i64 (fndG (err8_x9 n off cap L) (err8_x7 n) 8), Cell.slu 8 64 0 (err8_x15 n),
      Cell.int IntKind.u32 sc, Cell.map 9, Cell.int IntKind.i64 0]))], 11, []⟩)))
            ))
           ))
          ) else none)
         ))
        ) else none)
       ) else none)
      ))
     ) else none)
    ))
   ) else none)
  ) else none)
theorem err8_tree (n : Nat) (off : Nat) (cap : Nat) (sc : Int) (L : List Int) (F : List Int) (N : Nat) (a : Int) (b : Int) (c : Int) (e : Int) (M : S → Prop) (R : X → Option (List AV) → Prop) : err8 n off cap sc L F N a b c e M R = err8_t n off cap sc L F N a b c e M R := by kernel_rfl
noncomputable abbrev zer8_x0 (n : Nat) : Int := if 140 < (↑n : Int) then 140 else (↑n : Int)
noncomputable abbrev zer8_x1 (off : Nat) (cap : Nat) : Nat := if cap = 0 then off else off + 0
noncomputable abbrev zer8_x2 (off : Nat) (cap : Nat) : Nat := (zer8_x1 off cap) - off
noncomputable abbrev zer8_x3 (n : Nat) : Nat := (zer8_x0 n).toNat - 0
noncomputable abbrev zer8_x4 (n : Nat) : Nat := (zer8_x3 n) * 64
noncomputable abbrev zer8_x5 (n : Nat) (off : Nat) (cap : Nat) : Nat := (zer8_x2 off cap) + (zer8_x4 n)
noncomputable abbrev zer8_x6 (n : Nat) : Nat := 0 + (zer8_x3 n)
noncomputable abbrev zer8_x7 (n : Nat) : Bool := fits Try.prog.types[49] (zer8_x6 n)
noncomputable abbrev zer8_x8 (n : Nat) (off : Nat) (cap : Nat) (L : List Int) : List Int := List.take 0 (List.drop 0 (repl z64 0)) ++ List.take (zer8_x4 n) (List.drop (zer8_x2 off cap) L)
noncomputable abbrev zer8_x9 (n : Nat) (off : Nat) (cap : Nat) (L : List Int) : Int := fndE (zer8_x8 n off cap L) (zer8_x6 n)
noncomputable abbrev zer8_x10 (n : Nat) : Nat := 0 + (zer8_x4 n)
noncomputable abbrev zer8_x11 (n : Nat) : Nat := 0 + (zer8_x6 n) * 64
noncomputable abbrev zer8_x12 (n : Nat) : Nat := 0 + (zer8_x6 n)
noncomputable abbrev zer8_x13 (n : Nat) : Bool := fits Try.prog.types[49] (zer8_x12 n)
noncomputable def zer8_t (n : Nat) (off : Nat) (cap : Nat) (sc : Int) (L : List Int) (M : S → Prop) (R : X → Option (List AV) → Prop) : Option Prop :=
 (bif decide (0 ≤ (zer8_x0 n) ∧ (zer8_x0 n) ≤ (↑cap : Int)) then (
  (bif decide (off ≤ (zer8_x1 off cap) ∧ (zer8_x5 n off cap) ≤ L.length) then (
   (bif (zer8_x3 n).beq 0 then (
    some ((All [] ∧ R (X.ret) (some [AV.c (Cell.bool true)])))
    ) else (
    (bif decide (0 < (zer8_x6 n) ∧ (zer8_x7 n) = true) then (
     (bif (zer8_x9 n off cap L) != 0 then (
      some ((All [(zer8_x8 n off cap L).length = (zer8_x10 n), (zer8_x10 n) = 64 * (zer8_x6 n)] ∧ R (X.ret) (some [AV.c (Cell.bool (22 == (zer8_x9 n off cap L)))])))
      ) else (
      (bif decide ((zer8_x6 n) ≠ 0) then (
       (bif decide ((zer8_x11 n) ≤ (zer8_x10 n)) then (
        (bif (zer8_x6 n).beq 0 then (
         some ((All [(zer8_x8 n off cap L).length = (zer8_x10 n), (zer8_x10 n) = 64 * (zer8_x6 n)] ∧ R (X.ret) (some [AV.c (Cell.bool (22 == (zer8_x9 n off cap L)))])))
         ) else (
         (bif decide (0 < (zer8_x12 n) ∧ (zer8_x13 n) = true) then (
          some ((All [(zer8_x8 n off cap L).length = (zer8_x10 n), (zer8_x10 n) = 64 * (zer8_x6 n)] ∧ R (X.ret) (some [AV.c (Cell.bool (22 == (zer8_x9 n off cap L)))])))
          ) else none)
         ))
        ) else none)
       ) else none)
      ))
     ) else none)
    ))
   ) else none)
  ) else none)
theorem zer8_tree (n : Nat) (off : Nat) (cap : Nat) (sc : Int) (L : List Int) (M : S → Prop) (R : X → Option (List AV) → Prop) : zer8 n off cap sc L M R = zer8_t n off cap sc L M R := by kernel_rfl
noncomputable def run8_t (off : Nat) (sc : Int) (L : List Int) (F : List Int) (m : Nat) (N : Nat) (a : Int) (b : Int) (c : Int) (M : S → Prop) (R : X → Option (List AV) → Prop) : Option Prop :=
 some ((All [F.length = N, N = 64 * m, (↑m : Int) = 2 + a * (2 + b + c), geoB a b c = true, ByA F m] ∧ M (s8c off sc L F m N a b c (fldR a b c m sc (F, [], 0)).snd.snd (fldR a b c m sc (F, [], 0)).fst (fldR a b c m sc (F, [], 0)).snd.fst (fldR a b c m sc (F, [], 0)).snd.snd)))
theorem run8_tree (off : Nat) (sc : Int) (L : List Int) (F : List Int) (m : Nat) (N : Nat) (a : Int) (b : Int) (c : Int) (M : S → Prop) (R : X → Option (List AV) → Prop) : run8 off sc L F m N a b c M R = run8_t off sc L F m N a b c M R := by kernel_rfl
noncomputable def ini8_t (off : Nat) (sc : Int) (L : List Int) (F : List Int) (m : Nat) (N : Nat) (a : Int) (b : Int) (c : Int) (out : Int) (G : List Int) (l : List (Int × Int)) (o9 : Int) (Q : X → S → Prop) : Option Prop :=
 some ((All [] ∧ ((true = true) ∧ Q (X.normal) (s8l off sc L F m N a b c out G l 1 o9))))
theorem ini8_tree (off : Nat) (sc : Int) (L : List Int) (F : List Int) (m : Nat) (N : Nat) (a : Int) (b : Int) (c : Int) (out : Int) (G : List Int) (l : List (Int × Int)) (o9 : Int) (Q : X → S → Prop) : ini8 off sc L F m N a b c out G l o9 Q = ini8_t off sc L F m N a b c out G l o9 Q := by kernel_rfl
noncomputable def rA8_t (off : Nat) (sc : Int) (L : List Int) (F : List Int) (m : Nat) (N : Nat) (a : Int) (b : Int) (c : Int) (out : Int) (G : List Int) (l : List (Int × Int)) (i : Int) (o9 : Int) (Q : X → S → Prop) : Option Prop :=
 (bif decide (i ≤ inoN a b c) then (
  some ((All [] ∧ ((true = true) ∧ Q (X.normal) (s8l off sc L F m N a b c out G l i o9))))
  ) else (
  some ((All [] ∧ ((true = true) ∧ Q (X.exit 0) (s8l off sc L F m N a b c out G l i o9))))
  ))
theorem rA8_tree (off : Nat) (sc : Int) (L : List Int) (F : List Int) (m : Nat) (N : Nat) (a : Int) (b : Int) (c : Int) (out : Int) (G : List Int) (l : List (Int × Int)) (i : Int) (o9 : Int) (Q : X → S → Prop) : rA8 off sc L F m N a b c out G l i o9 Q = rA8_t off sc L F m N a b c out G l i o9 Q := by kernel_rfl
noncomputable def rF8_t (off : Nat) (sc : Int) (L : List Int) (F : List Int) (m : Nat) (N : Nat) (a : Int) (b : Int) (c : Int) (out : Int) (G : List Int) (l : List (Int × Int)) (i : Int) (o9 : Int) (Q : X → S → Prop) : Option Prop :=
 some ((All [] ∧ ((true = true) ∧ Q (X.normal) (s8l off sc L F m N a b c out G l (IntKind.i64.wrap (i + 1)) o9))))
theorem rF8_tree (off : Nat) (sc : Int) (L : List Int) (F : List Int) (m : Nat) (N : Nat) (a : Int) (b : Int) (c : Int) (out : Int) (G : List Int) (l : List (Int × Int)) (i : Int) (o9 : Int) (Q : X → S → Prop) : rF8 off sc L F m N a b c out G l i o9 Q = rF8_t off sc L F m N a b c out G l i o9 Q := by kernel_rfl
noncomputable def rB8_t (off : Nat) (sc : Int) (L : List Int) (F : List Int) (m : Nat) (N : Nat) (a : Int) (b : Int) (c : Int) (out : Int) (G : List Int) (l : List (Int × Int)) (i : Int) (o9 : Int) (M : S → Prop) : Option Prop :=
 some ((All [F.length = N, N = 64 * m, G.length = N, N = 64 * m] ∧ M (s8m off sc L F m N a b c out G l i o9 (sel (inoB a b c i) (inoP b c i).1) (sel (inoB a b c i) (inoP b c i).2.1) (sel (inoB a b c i) (inoP b c i).2.2.1) (sel (inoB a b c i) (inoP b c i).2.2.2) (inoG a b c G m i) (inoG a b c F m i) (inoOk a b c G m i) (inoOk a b c F m i))))
theorem rB8_tree (off : Nat) (sc : Int) (L : List Int) (F : List Int) (m : Nat) (N : Nat) (a : Int) (b : Int) (c : Int) (out : Int) (G : List Int) (l : List (Int × Int)) (i : Int) (o9 : Int) (M : S → Prop) : rB8 off sc L F m N a b c out G l i o9 M = rB8_t off sc L F m N a b c out G l i o9 M := by kernel_rfl
noncomputable def rC8_t (off : Nat) (sc : Int) (L : List Int) (F : List Int) (m : Nat) (N : Nat) (a : Int) (b : Int) (c : Int) (out : Int) (G : List Int) (l : List (Int × Int)) (i : Int) (o9 : Int) (q1 : Int) (q2 : Int) (q3 : Int) (q4 : Int) (A : Fi.Ino9) (B : Fi.Ino9) (ok : Bool) (wk : Bool) (Q : X → S → Prop) : Option Prop :=
 (bif !ok == wk then (
  some ((All [] ∧ False ))
  ) else (
  some ((All [] ∧ Q (X.normal) (s8k off sc L F m N a b c out G l i o9 q1 q2 q3 q4 A B ok)))
  ))
theorem rC8_tree (off : Nat) (sc : Int) (L : List Int) (F : List Int) (m : Nat) (N : Nat) (a : Int) (b : Int) (c : Int) (out : Int) (G : List Int) (l : List (Int × Int)) (i : Int) (o9 : Int) (q1 : Int) (q2 : Int) (q3 : Int) (q4 : Int) (A : Fi.Ino9) (B : Fi.Ino9) (ok : Bool) (wk : Bool) (Q : X → S → Prop) : rC8 off sc L F m N a b c out G l i o9 q1 q2 q3 q4 A B ok wk Q = rC8_t off sc L F m N a b c out G l i o9 q1 q2 q3 q4 A B ok wk Q := by kernel_rfl
noncomputable def rD8_t (off : Nat) (sc : Int) (L : List Int) (F : List Int) (m : Nat) (N : Nat) (a : Int) (b : Int) (c : Int) (out : Int) (G : List Int) (l : List (Int × Int)) (i : Int) (o9 : Int) (q1 : Int) (q2 : Int) (q3 : Int) (q4 : Int) (A : Fi.Ino9) (B : Fi.Ino9) (ok : Bool) (Q : X → S → Prop) : Option Prop :=
 some ((All [B.Ok] ∧ Q (X.normal) (s8j off sc L F m N a b c out G l i o9 q1 q2 q3 q4 A B (Fi.sh a b c i B) ok)))
theorem rD8_tree (off : Nat) (sc : Int) (L : List Int) (F : List Int) (m : Nat) (N : Nat) (a : Int) (b : Int) (c : Int) (out : Int) (G : List Int) (l : List (Int × Int)) (i : Int) (o9 : Int) (q1 : Int) (q2 : Int) (q3 : Int) (q4 : Int) (A : Fi.Ino9) (B : Fi.Ino9) (ok : Bool) (Q : X → S → Prop) : rD8 off sc L F m N a b c out G l i o9 q1 q2 q3 q4 A B ok Q = rD8_t off sc L F m N a b c out G l i o9 q1 q2 q3 q4 A B ok Q := by kernel_rfl
noncomputable abbrev rE8_x0 (A : Fi.Ino9) (B : Fi.Ino9) : Bool := !(A.k == B.k &&
    (A.l == B.l &&
      (A.s == B.s &&
        (A.d0 == B.d0 && (A.d1 == B.d1 && (A.d2 == B.d2 && (A.d3 == B.d3 && true))) &&
          (A.sg == B.sg && (A.db == B.db && true))))))
noncomputable abbrev rE8_x1 (B : Fi.Ino9) (D : Fi.Ino9) : Bool := B.k == D.k &&
  (B.l == D.l &&
    (B.s == D.s &&
      (B.d0 == D.d0 && (B.d1 == D.d1 && (B.d2 == D.d2 && (B.d3 == D.d3 && true))) &&
        (B.sg == D.sg && (B.db == D.db && true)))))
noncomputable def rE8_t (off : Nat) (sc : Int) (L : List Int) (F : List Int) (m : Nat) (N : Nat) (a : Int) (b : Int) (c : Int) (out : Int) (G : List Int) (l : List (Int × Int)) (i : Int) (o9 : Int) (q1 : Int) (q2 : Int) (q3 : Int) (q4 : Int) (A : Fi.Ino9) (B : Fi.Ino9) (D : Fi.Ino9) (ok : Bool) (Q : X → S → Prop) : Option Prop :=
 (bif inS a sc q3 then (
  (bif ok then (
   (bif !(A.k == D.k &&
    (A.l == D.l &&
      (A.s == D.s &&
        (A.d0 == D.d0 && (A.d1 == D.d1 && (A.d2 == D.d2 && (A.d3 == D.d3 && true))) &&
          (A.sg == D.sg && (A.db == D.db && true)))))) then (
    some ((All [] ∧ False ))
    ) else (
    (bif !inS a sc q3 then (
     (bif (rE8_x0 A B) then (
      some ((All [] ∧ False ))
      ) else (
      some ((All [] ∧ Q (X.normal) (s8i off sc L F m N a b c out G l i o9 q1 q2 q3 q4 A B D)))
      ))
     ) else (
     (bif (rE8_x1 B D) then (
      (bif (rE8_x0 A B) then (
       some ((All [] ∧ False ))
       ) else (
       some ((All [] ∧ Q (X.normal) (s8i off sc L F m N a b c out G l i o9 q1 q2 q3 q4 A B D)))
       ))
      ) else (
      some ((All [] ∧ Q (X.normal) (s8i off sc L F m N a b c out G l i o9 q1 q2 q3 q4 A B D)))
      ))
     ))
    ))
   ) else (
   (bif !inS a sc q3 then (
    (bif (rE8_x0 A B) then (
     some ((All [] ∧ False ))
     ) else (
     some ((All [] ∧ Q (X.normal) (s8i off sc L F m N a b c out G l i o9 q1 q2 q3 q4 A B D)))
     ))
    ) else (
    (bif (rE8_x1 B D) then (
     (bif (rE8_x0 A B) then (
      some ((All [] ∧ False ))
      ) else (
      some ((All [] ∧ Q (X.normal) (s8i off sc L F m N a b c out G l i o9 q1 q2 q3 q4 A B D)))
      ))
     ) else (
     some ((All [] ∧ Q (X.normal) (s8i off sc L F m N a b c out G l i o9 q1 q2 q3 q4 A B D)))
     ))
    ))
   ))
  ) else (
  (bif !inS a sc q3 then (
   (bif (rE8_x0 A B) then (
    some ((All [] ∧ False ))
    ) else (
    some ((All [] ∧ Q (X.normal) (s8i off sc L F m N a b c out G l i o9 q1 q2 q3 q4 A B D)))
    ))
   ) else (
   (bif (rE8_x1 B D) then (
    (bif (rE8_x0 A B) then (
     some ((All [] ∧ False ))
     ) else (
     some ((All [] ∧ Q (X.normal) (s8i off sc L F m N a b c out G l i o9 q1 q2 q3 q4 A B D)))
     ))
    ) else (
    some ((All [] ∧ Q (X.normal) (s8i off sc L F m N a b c out G l i o9 q1 q2 q3 q4 A B D)))
    ))
   ))
  ))
theorem rE8_tree (off : Nat) (sc : Int) (L : List Int) (F : List Int) (m : Nat) (N : Nat) (a : Int) (b : Int) (c : Int) (out : Int) (G : List Int) (l : List (Int × Int)) (i : Int) (o9 : Int) (q1 : Int) (q2 : Int) (q3 : Int) (q4 : Int) (A : Fi.Ino9) (B : Fi.Ino9) (D : Fi.Ino9) (ok : Bool) (Q : X → S → Prop) : rE8 off sc L F m N a b c out G l i o9 q1 q2 q3 q4 A B D ok Q = rE8_t off sc L F m N a b c out G l i o9 q1 q2 q3 q4 A B D ok Q := by kernel_rfl
noncomputable def fin8a_t (off : Nat) (sc : Int) (L : List Int) (F : List Int) (m : Nat) (N : Nat) (a : Int) (b : Int) (c : Int) (out : Int) (G : List Int) (l : List (Int × Int)) (i : Int) (o9 : Int) (R : X → Option (List AV) → Prop) : Option Prop :=
 (bif o9 == 0 then (
  some ((All [(fldR a b c m sc (G, l, out)).snd.fst = [], G.length = N, N = 64 * m, (↑m : Int) = 2 + a * (2 + b + c), geoB a b c = true, ByA G m, l = []] ∧ R (X.ret) (some [AV.c (Cell.bool ((fldR a b c m sc (G, l, out)).snd.snd == 0))])))
  ) else (
  some ((All [(fldR a b c m sc (G, l, out)).snd.fst = [], G.length = N, N = 64 * m, (↑m : Int) = 2 + a * (2 + b + c), geoB a b c = true, ByA G m, l = []] ∧ R (X.ret) (some [AV.c (Cell.bool false)])))
  ))
theorem fin8a_tree (off : Nat) (sc : Int) (L : List Int) (F : List Int) (m : Nat) (N : Nat) (a : Int) (b : Int) (c : Int) (out : Int) (G : List Int) (l : List (Int × Int)) (i : Int) (o9 : Int) (R : X → Option (List AV) → Prop) : fin8a off sc L F m N a b c out G l i o9 R = fin8a_t off sc L F m N a b c out G l i o9 R := by kernel_rfl
noncomputable abbrev fin8b_x0 (sc : Int) (m : Nat) (a : Int) (b : Int) (c : Int) (out : Int) (G : List Int) (l : List (Int × Int)) : Nat := (fldR a b c m sc (G, l, out)).snd.fst.length
noncomputable def fin8b_t (off : Nat) (sc : Int) (L : List Int) (F : List Int) (m : Nat) (N : Nat) (a : Int) (b : Int) (c : Int) (out : Int) (G : List Int) (l : List (Int × Int)) (i : Int) (o9 : Int) (R : X → Option (List AV) → Prop) : Option Prop :=
 (bif (↑(fin8b_x0 sc m a b c out G l) : Int) == (↑l.length : Int) then (
  (bif o9 == 0 then (
   some ((All [(fldR a b c m sc (G, l, out)).snd.fst ≠ [], (fin8b_x0 sc m a b c out G l) ≤ 1000000, ∀ (p : Int × Int), p ∈ (fldR a b c m sc (G, l, out)).snd.fst → (Lit.int IntKind.i64 p.fst).wf = true, G.length = N, N = 64 * m, (↑m : Int) = 2 + a * (2 + b + c), geoB a b c = true, ByA G m, l ≠ [], l.length ≤ 1000000, ∀ (p : Int × Int), p ∈ l → (Lit.int IntKind.i64 p.fst).wf = true] ∧ R (X.ret) (some [AV.c (Cell.bool ((fldR a b c m sc (G, l, out)).snd.snd == 0))])))
   ) else (
   some ((All [(fldR a b c m sc (G, l, out)).snd.fst ≠ [], (fin8b_x0 sc m a b c out G l) ≤ 1000000, ∀ (p : Int × Int), p ∈ (fldR a b c m sc (G, l, out)).snd.fst → (Lit.int IntKind.i64 p.fst).wf = true, G.length = N, N = 64 * m, (↑m : Int) = 2 + a * (2 + b + c), geoB a b c = true, ByA G m, l ≠ [], l.length ≤ 1000000, ∀ (p : Int × Int), p ∈ l → (Lit.int IntKind.i64 p.fst).wf = true] ∧ R (X.ret) (some [AV.c (Cell.bool false)])))
   ))
  ) else (
  some ((All [(fldR a b c m sc (G, l, out)).snd.fst ≠ [], (fin8b_x0 sc m a b c out G l) ≤ 1000000, ∀ (p : Int × Int), p ∈ (fldR a b c m sc (G, l, out)).snd.fst → (Lit.int IntKind.i64 p.fst).wf = true, G.length = N, N = 64 * m, (↑m : Int) = 2 + a * (2 + b + c), geoB a b c = true, ByA G m, l ≠ [], l.length ≤ 1000000, ∀ (p : Int × Int), p ∈ l → (Lit.int IntKind.i64 p.fst).wf = true] ∧ R (X.ret) (some [AV.c (Cell.bool false)])))
  ))
theorem fin8b_tree (off : Nat) (sc : Int) (L : List Int) (F : List Int) (m : Nat) (N : Nat) (a : Int) (b : Int) (c : Int) (out : Int) (G : List Int) (l : List (Int × Int)) (i : Int) (o9 : Int) (R : X → Option (List AV) → Prop) : fin8b off sc L F m N a b c out G l i o9 R = fin8b_t off sc L F m N a b c out G l i o9 R := by kernel_rfl
end Go.Sx
