/-
  Parts of the executor Sx over the model's code (any program), or of this seat's walks: words and proofs that the row's text uses.
-/
import Derived.Test.YtfceckiklfkjkaaGreatL1
import Derived.Test.YtfceckiklfkjkaaGreatS1
import Derived.Test.YtfceckiklfkjkaaGreatH6
import Derived.Test.YtfceckiklfkjkaaGreatSxT
namespace Go.Sx
open Go.Proofs Go.RowKit
set_option maxRecDepth 100000
/-! ### FieldsPlays: law f3 -/
noncomputable def sg3n : FuncId → Option SumA := fun f => match f with
  | 18 => some (pureSum Fi.fTrue) | 15 => some sumFew | 74 => some sumClone | 19 => some sumRun | 20 => some sum31 | 21 => some (sumRd g36) | 22 => some (sumRdR g22) | 23 => some (sumImg g63) | 24 => some (sumRef g24) | 26 => some (sumImg g33) | 27 => some (sumRef g27) | 91 => some sum30 | 73 => some sumFind2 | 67 => some sumFindR | _ => none
theorem fit3 : Fit Tryz.prog (fun f => (sg3n f).map toSum) := ⟨fit_ng, fit_mixed, SumAOK.sum fun f sm h => by
  unfold sg3n at h
  split at h
  · cases h; exact Fi.fTrue_ok works28
  · cases h; exact sumFew_ok
  · cases h; exact sumClone_ok
  · cases h; exact sumRun_ok
  · cases h; exact sum31_ok
  · cases h; exact sum36
  · cases h; exact sum22
  · cases h; exact sum63
  · cases h; exact sum24
  · cases h; exact sum33
  · cases h; exact sum27
  · cases h; exact sum30_ok
  · cases h; exact sumFind2_ok
  · cases h; exact sumFindR_ok
  · cases h⟩
noncomputable def c3 : Code := gB 3
noncomputable def args3 (cl : Cell) (sc i : Int) (k l s d0 d1 d2 d3 sg db : Int) (fs : Bool) : List RV := [.one (.c cl), .one (.c (.int .u32 sc)), .one (.c (.int .i64 i)), .one (.agg [.int .u8 k, .int .u8 l, .int .u32 s, .int .u16 d0, .int .u16 d1, .int .u16 d2, .int .u16 d3, .int .u16 sg, .int .u16 db]), .one (.c (.bool fs))]
noncomputable def sl3 (cl : Cell) (sc i : Int) (k l s d0 d1 d2 d3 sg db : Int) (fs : Bool) : T RV := match setArgs 100 (args3 cl sc i k l s d0 d1 d2 d3 sg db fs) 0 .nil some with | some t => t | none => .nil
theorem sl3_ok (cl : Cell) (sc i : Int) (k l s d0 d1 d2 d3 sg db : Int) (fs : Bool) : setArgs 100 (args3 cl sc i k l s d0 d1 d2 d3 sg db fs) 0 .nil some = some (sl3 cl sc i k l s d0 d1 d2 d3 sg db fs) := by kernel_rfl
section
variable (n off cap : Nat) (sc i : Int) (k l s d0 d1 d2 d3 sg db : Int) (fs : Bool) (L : List Int)
noncomputable def s30 (cl : Cell) (x0 : Blk) : S := ⟨sl3 cl sc i k l s d0 d1 d2 d3 sg db fs, ofL [(0, x0), (1, x0)], 2, []⟩
noncomputable def pre3 (M : S → Prop) (R : X → Option (List AV) → Prop) : Option Prop :=
  execN Tryz.prog sg3n 300 100 6 c3 (s30 sc i k l s d0 d1 d2 d3 sg db fs (.sl 0 off n cap) (.win off .u8 L)) αT (fun x s α => some (All α.ob ∧ match x with | .normal => M (fgt [2, 4, 8, 11, 13] 100 s) | x => R x (resOf Tryz.prog 100 s Tryz.f3.results.toList)))
end
end Go.Sx

namespace Go.Sx
open Go.Proofs Go.RowKit
set_option maxRecDepth 100000
section
variable (off : Nat) (G F : List Int) (n : Nat) (a b c sc : Int) (i k l s d0 d1 d2 d3 sg db : Int) (fs : Bool) (L : List Int) (lm : List (Int × Int)) (W : List Bool) (out : Int) (mp : Blk) (L' : List Int) (out' : Int)
abbrev geB (a b c : Int) : Blk := .row 62 false none (.cells [.int .i64 a, .int .i64 b, .int .i64 c])
abbrev scB (F : List Int) (n : Nat) : Blk := .row 95 false (some 64) (.ints .u8 F (64 * n))
abbrev imX (a b c sc : Int) (n : Nat) (out : Int) (nl nw : Nat) : Blk := .row 113 false none (.cells [.int .i64 a, .int .i64 b, .int .i64 c, .slu nl 64 0 n, .int .u32 sc, .map nw, .int .i64 out])
abbrev imY (a b c sc : Int) (n : Nat) (out : Int) (nl nw : Nat) : Blk := .row 65 false none (.cells [.int .i64 a, .int .i64 b, .int .i64 c, .slu nl 64 0 n, .int .u32 sc, .sl nw 0 n n, .int .i64 out])
abbrev inoBk (k l s d0 d1 d2 d3 sg db : Int) : Blk := .row 27 false none (.cells [.int .u8 k, .int .u8 l, .int .u32 s, .int .u16 d0, .int .u16 d1, .int .u16 d2, .int .u16 d3, .int .u16 sg, .int .u16 db])
noncomputable def hp3 : T Blk := ofL [(0, .win off .u8 G), (1, .win off .u8 G), (2, inoBk k l s d0 d1 d2 d3 sg db), (3, scB F n), (4, scB F n), (5, geB a b c), (6, scB L n), (7, mp), (8, imX a b c sc n out 6 7), (9, geB a b c), (10, .row 95 false none (.ints .u8 [] 0)), (11, scB L' n), (12, .row 4 false none (.bools W n)), (13, imY a b c sc n out' 11 12)]
noncomputable def s3a : S := fgt [2, 4, 8, 11, 13] 100 ⟨ofL [(2, .one (.c (.int .i64 i))), (4, .one (.c (.bool fs))), (8, .one (.c (.ptr 2 0))), (11, .one (.c (.ptr 8 0))), (13, .one (.c (.ptr 13 0)))], hp3 off G F n a b c sc k l s d0 d1 d2 d3 sg db L W out mp L out, 14, []⟩
noncomputable def s3b : S := low 100 14 (fgt [2, 8, 11, 13] 100 ⟨ofL [(2, .one (.c (.int .i64 i))), (8, .one (.c (.ptr 2 0))), (11, .one (.c (.ptr 8 0))), (13, .one (.c (.ptr 13 0)))], hp3 off G F n a b c sc k l s d0 d1 d2 d3 sg db L W out (.mapI none lm) L' out', 14, []⟩)
noncomputable def fst3 (Q : X → S → Prop) : Option Prop := execA Tryz.prog sg3n 300 100 (gL (tailN 6 c3)) (asB 7 (.mapI none []) (s3a off G F n a b c sc i k l s d0 d1 d2 d3 sg db fs L W out (.map []))) αT (fun x s α => some (All α.ob ∧ match x with | .ret => False | x => Nat.ble 14 s.nx = true ∧ Q x (low 100 14 (fgt [2, 8, 11, 13] 100 s))))
noncomputable def fin3 (R : X → Option (List AV) → Prop) : Option Prop := execA Tryz.prog sg3n 300 100 (gR (tailN 6 c3)) (s3b off G F n a b c sc i k l s d0 d1 d2 d3 sg db L lm W out L out) αT (fun x s α => some (All α.ob ∧ R x (resOf Tryz.prog 100 s Tryz.f3.results.toList)))
end
section
variable {a b c : Int} {n : Nat} {sc : Int} {st : St} {sr : StR}
theorem Sim.w63 (h : Sim n st sr) (i : Int) (y : Fi.Ino9) : (wr63 a b c n sc st i y).1 = (wr24 a b c n sc sr i y).1 ∧ Sim n (wr63 a b c n sc st i y).2 (wr24 a b c n sc sr i y).2 := by
  unfold wr63 wr24
  rw [← h.img]
  split
  · exact h.wr _ _ _
  · exact ⟨rfl, h⟩
theorem Sim.fld (h : Sim n st sr) (i : Int) : Sim n (fld1 a b c n sc st i) (fldF a b c n sc sr i) := by
  unfold fld1 fldF
  rw [← h.img]
  split
  · exact (h.w63 _ _).2
  · exact h
theorem Sim.flds : ∀ (m : Nat) (st : St) (sr : StR) (i : Int), Sim n st sr → Sim n (Sx.flds a b c n sc m st i) (fldsF a b c n sc m sr i)
  | 0, _, _, _, h => h
  | m + 1, _, _, i, h => Sim.flds m _ _ (i + 1) (h.fld i)
theorem Sim.fldR (h : Sim n st sr) : Sim n (Sx.fldR a b c n sc st) (fldRF a b c n sc sr) := Sim.flds _ _ _ _ h
end
end Go.Sx

namespace Go.Sx
open Go.Proofs Go.RowKit
set_option maxRecDepth 100000
noncomputable abbrev pre3_x0 (n : Nat) : Nat := 64 * few n
noncomputable abbrev pre3_x1 (n : Nat) (L : List Int) : List Int := List.take (pre3_x0 n) L
noncomputable abbrev pre3_x2 (n : Nat) (L : List Int) : Int := fndE (pre3_x1 n L) (few n)
noncomputable abbrev pre3_x3 (n : Nat) (L : List Int) : Bool := (pre3_x2 n L) != 0
noncomputable abbrev pre3_x4 (n : Nat) (L : List Int) : Bool := (pre3_x2 n L) != (pre3_x2 n L)
noncomputable abbrev pre3_x5 (n : Nat) : Bool := decide (few n ≠ 0)
noncomputable abbrev pre3_x6 (n : Nat) : Nat := few n * 64
noncomputable abbrev pre3_x7 (n : Nat) : Nat := 0 + (pre3_x6 n)
noncomputable abbrev pre3_x8 (n : Nat) : Bool := decide ((pre3_x7 n) ≤ (pre3_x0 n))
noncomputable abbrev pre3_x9 (n : Nat) : Nat := 1 * (↑(few n) : Int).toNat
noncomputable abbrev pre3_x10 (n : Nat) : Bool := decide (0 ≤ (↑(few n) : Int) ∧ (↑(few n) : Int) = (↑(few n) : Int) ∧ (pre3_x9 n) ≤ 1000000000 ∧ (↑(few n) : Int).toNat < 1000000000)
noncomputable abbrev pre3_x11 (n : Nat) : Nat := 0 + few n
noncomputable abbrev pre3_x12 (n : Nat) : Bool := fits Tryz.prog.types[95]! (pre3_x11 n)
noncomputable abbrev pre3_x13 (n : Nat) : Bool := decide (0 < (pre3_x11 n) ∧ (pre3_x12 n) = true)
noncomputable def pre3_t (n off cap : Nat) (sc i : Int) (k l : Int) (s d0 : Int) (d1 d2 : Int) (d3 sg db : Int) (fs : Bool) (L : List Int) (M : S → Prop) (R : X → Option (List AV) → Prop) : Option Prop := (bif (pre3_x3 n L) then ( (bif (pre3_x3 n L) then ( (bif (pre3_x4 n L) then ( some ((All [(pre3_x1 n L).length = (pre3_x0 n), (pre3_x0 n) = (pre3_x0 n), Bytes (pre3_x1 n L), (pre3_x1 n L).length = (pre3_x0 n), (pre3_x0 n) = (pre3_x0 n), (pre3_x1 n L).length = (pre3_x0 n), (pre3_x0 n) = (pre3_x0 n), few n ≠ 0, few n ≤ 140, off = off, L.length = 64 * n, n ≤ cap, n ≠ 0] ∧ R (X.ret) (some [AV.c (Cell.bool false)]))) ) else ( some ((All [(pre3_x1 n L).length = (pre3_x0 n), (pre3_x0 n) = (pre3_x0 n), Bytes (pre3_x1 n L), (pre3_x1 n L).length = (pre3_x0 n), (pre3_x0 n) = (pre3_x0 n), (pre3_x1 n L).length = (pre3_x0 n), (pre3_x0 n) = (pre3_x0 n), few n ≠ 0, few n ≤ 140, off = off, L.length = 64 * n, n ≤ cap, n ≠ 0] ∧ R (X.ret) (some [AV.c (Cell.bool true)]))) )) ) else ( (bif (pre3_x5 n) then ( (bif (pre3_x8 n) then ( (bif (few n).beq 0 then ( (bif (pre3_x10 n) then ( (bif (pre3_x3 n L) then ( some ((All [(pre3_x1 n L).length = (pre3_x0 n), (pre3_x0 n) = (pre3_x0 n), Bytes (pre3_x1 n L), (pre3_x1 n L).length = (pre3_x0 n), (pre3_x0 n) = (pre3_x0 n), (pre3_x1 n L).length = (pre3_x0 n), (pre3_x0 n) = (pre3_x0 n), few n ≠ 0, few n ≤ 140, off = off, L.length = 64 * n, n ≤ cap, n ≠ 0] ∧ R (X.ret) (some [AV.c (Cell.bool false)]))) ) else ( some ((All [(pre3_x1 n L).length = (pre3_x0 n), (pre3_x0 n) = (pre3_x0 n), Bytes (pre3_x1 n L), (pre3_x1 n L).length = (pre3_x0 n), (pre3_x0 n) = (pre3_x0 n), (pre3_x1 n L).length = (pre3_x0 n), (pre3_x0 n) = (pre3_x0 n), few n ≠ 0, few n ≤ 140, off = off, L.length = 64 * n, n ≤ cap, n ≠ 0] ∧ R (X.ret) (some [AV.c (Cell.bool false)]))) )) ) else none) ) else ( (bif (pre3_x13 n) then ( (bif (pre3_x10 n) then ( (bif (pre3_x3 n L) then ( some ((All [(pre3_x1 n L).length = (pre3_x0 n), (pre3_x0 n) = (pre3_x0 n), Bytes (pre3_x1 n L), (pre3_x1 n L).length = (pre3_x0 n), (pre3_x0 n) = (pre3_x0 n), (pre3_x1 n L).length = (pre3_x0 n), (pre3_x0 n) = (pre3_x0 n), few n ≠ 0, few n ≤ 140, off = off, L.length = 64 * n, n ≤ cap, n ≠ 0] ∧ R (X.ret) (some [AV.c (Cell.bool false)]))) ) else ( some ((All [(pre3_x1 n L).length = (pre3_x0 n), (pre3_x0 n) = (pre3_x0 n), Bytes (pre3_x1 n L), (pre3_x1 n L).length = (pre3_x0 n), (pre3_x0 n) = (pre3_x0 n), (pre3_x1 n L).length = (pre3_x0 n), (pre3_x0 n) = (pre3_x0 n), few n ≠ 0, few n ≤ 140, off = off, L.length = 64 * n, n ≤ cap, n ≠ 0] ∧ R (X.ret) (some [AV.c (Cell.bool false)]))) )) ) else none) ) else none) )) ) else none) ) else none) )) ) else ( (bif (pre3_x3 n L) then ( (bif (pre3_x4 n L) then ( some ((All [(pre3_x1 n L).length = (pre3_x0 n), (pre3_x0 n) = (pre3_x0 n), Bytes (pre3_x1 n L), (pre3_x1 n L).length = (pre3_x0 n), (pre3_x0 n) = (pre3_x0 n), few n ≠ 0, few n ≤ 140, (pre3_x1 n L).length = (pre3_x0 n), (pre3_x0 n) = (pre3_x0 n), (pre3_x1 n L).length = (pre3_x0 n), (pre3_x0 n) = (pre3_x0 n), few n ≠ 0, few n ≤ 140, off = off, L.length = 64 * n, n ≤ cap, n ≠ 0] ∧ R (X.ret) (some [AV.c (Cell.bool false)]))) ) else ( some ((All [(pre3_x1 n L).length = (pre3_x0 n), (pre3_x0 n) = (pre3_x0 n), Bytes (pre3_x1 n L), (pre3_x1 n L).length = (pre3_x0 n), (pre3_x0 n) = (pre3_x0 n), few n ≠ 0, few n ≤ 140, (pre3_x1 n L).length = (pre3_x0 n), (pre3_x0 n) = (pre3_x0 n), (pre3_x1 n L).length = (pre3_x0 n), (pre3_x0 n) = (pre3_x0 n), few n ≠ 0, few n ≤ 140, off = off, L.length = 64 * n, n ≤ cap, n ≠ 0] ∧ R (X.ret) (some [AV.c (Cell.bool false)]))) )) ) else ( (bif (pre3_x5 n) then ( (bif (pre3_x8 n) then ( (bif (few n).beq 0 then ( (bif (pre3_x10 n) then ( (bif (pre3_x3 n L) then ( some ((All [(pre3_x1 n L).length = (pre3_x0 n), (pre3_x0 n) = (pre3_x0 n), Bytes (pre3_x1 n L), (pre3_x1 n L).length = (pre3_x0 n), (pre3_x0 n) = (pre3_x0 n), few n ≠ 0, few n ≤ 140, (pre3_x1 n L).length = (pre3_x0 n), (pre3_x0 n) = (pre3_x0 n), (pre3_x1 n L).length = (pre3_x0 n), (pre3_x0 n) = (pre3_x0 n), few n ≠ 0, few n ≤ 140, off = off, L.length = 64 * n, n ≤ cap, n ≠ 0] ∧ R (X.ret) (some [AV.c (Cell.bool false)]))) ) else ( some ((All [(pre3_x1 n L).length = (pre3_x0 n), (pre3_x0 n) = (pre3_x0 n), Bytes (pre3_x1 n L), (pre3_x1 n L).length = (pre3_x0 n), (pre3_x0 n) = (pre3_x0 n), few n ≠ 0, few n ≤ 140, (pre3_x1 n L).length = (pre3_x0 n), (pre3_x0 n) = (pre3_x0 n), (pre3_x1 n L).length = (pre3_x0 n), (pre3_x0 n) = (pre3_x0 n), few n ≠ 0, few n ≤ 140, off = off, L.length = 64 * n, n ≤ cap, n ≠ 0] ∧ M (fgt [2, 4, 8, 11, 13] 100 ⟨ofL [(2, RV.one (AV.c (Cell.int IntKind.i64 i))), (4, RV.one (AV.c (Cell.bool fs))), (8, RV.one (AV.c (Cell.ptr 2 0))), (11, RV.one (AV.c (Cell.ptr 8 0))), (13, RV.one (AV.c (Cell.ptr 12 0)))], ofL [(0, Blk.win off IntKind.u8 L), (1, Blk.win off IntKind.u8 L), (2, Blk.row 27 false none (Body.cells [Cell.int IntKind.u8 k, Cell.int IntKind.u8 l, Cell.int IntKind.u32 s, Cell.int IntKind.u16 d0, Cell.int IntKind.u16 d1, Cell.int IntKind.u16 d2, Cell.int IntKind.u16 d3, Cell.int IntKind.u16 sg, Cell.int IntKind.u16 db])), (3, Blk.row 95 false (some 64) (Body.ints IntKind.u8 (pre3_x1 n L) (pre3_x0 n))), (4, Blk.row 95 false (some 64) (Body.ints IntKind.u8 (pre3_x1 n L) (pre3_x0 n))), (5, Blk.row 62 false none (Body.cells [Cell.int IntKind.i64 (fndG (pre3_x1 n L) (few n) 4), Cell.int IntKind.i64 (fndG (pre3_x1 n L) (few n) 6), Cell.int IntKind.i64 (fndG (pre3_x1 n L) (few n) 8)])), (6, Blk.row 95 false (some 64) (Body.ints IntKind.u8 (pre3_x1 n L) (pre3_x0 n))), (7, Blk.map []), (8, Blk.row 113 false none (Body.cells [Cell.int IntKind.i64 (fndG (pre3_x1 n L) (few n) 4), Cell.int IntKind.i64 (fndG (pre3_x1 n L) (few n) 6), Cell.int IntKind.i64 (fndG (pre3_x1 n L) (few n) 8), Cell.slu 6 64 0 (few n), Cell.int IntKind.u32 sc, Cell.map 7, Cell.int IntKind.i64 0])), (9, Blk.row 62 false none (Body.cells [Cell.int IntKind.i64 (fndG (pre3_x1 n L) (few n) 4), Cell.int IntKind.i64 (fndG (pre3_x1 n L) (few n) 6), Cell.int IntKind.i64 (fndG (pre3_x1 n L) (few n) 8)])), (10, Blk.row 95 false none (Body.ints IntKind.u8 [] 0)), (11, Blk.row 4 false none (Body.bools (repl [false] (↑(few n) : Int).toNat) (↑(few n) : Int).toNat)), (12, Blk.row 65 false none (Body.cells [Cell.int IntKind.i64 (fndG (pre3_x1 n L) (few n) 4), Cell.int IntKind.i64 (fndG (pre3_x1 n L) (few n) 6), Cell.int IntKind.i64 (fndG (pre3_x1 n L) (few n) 8), Cell.sl 10 0 0 0, Cell.int IntKind.u32 sc, Cell.sl 11 0 (↑(few n) : Int).toNat (↑(few n) : Int).toNat, Cell.int IntKind.i64 0]))], 13, []⟩))) )) ) else none) ) else ( (bif (pre3_x13 n) then ( (bif (pre3_x10 n) then ( (bif (pre3_x3 n L) then ( some ((All [(pre3_x1 n L).length = (pre3_x0 n), (pre3_x0 n) = (pre3_x0 n), Bytes (pre3_x1 n L), (pre3_x1 n L).length = (pre3_x0 n), (pre3_x0 n) = (pre3_x0 n), few n ≠ 0, few n ≤ 140, (pre3_x1 n L).length = (pre3_x0 n), (pre3_x0 n) = (pre3_x0 n), (pre3_x1 n L).length = (pre3_x0 n), (pre3_x0 n) = (pre3_x0 n), few n ≠ 0, few n ≤ 140, off = off, L.length = 64 * n, n ≤ cap, n ≠ 0] ∧ R (X.ret) (some [AV.c (Cell.bool false)]))) ) else ( some ((All [(pre3_x1 n L).length = (pre3_x0 n), (pre3_x0 n) = (pre3_x0 n), Bytes (pre3_x1 n L), (pre3_x1 n L).length = (pre3_x0 n), (pre3_x0 n) = (pre3_x0 n), few n ≠ 0, few n ≤ 140, (pre3_x1 n L).length = (pre3_x0 n), (pre3_x0 n) = (pre3_x0 n), (pre3_x1 n L).length = (pre3_x0 n), (pre3_x0 n) = (pre3_x0 n), few n ≠ 0, few n ≤ 140, off = off, L.length = 64 * n, n ≤ cap, n ≠ 0] ∧ M (fgt [2, 4, 8, 11, 13] 100 ⟨ofL [(2, RV.one (AV.c (Cell.int IntKind.i64 i))), (4, RV.one (AV.c (Cell.bool fs))), (8, RV.one (AV.c (Cell.ptr 2 0))), (11, RV.one (AV.c (Cell.ptr 8 0))), (13, RV.one (AV.c (Cell.ptr 13 0)))], ofL [(0, Blk.win off IntKind.u8 L), (1, Blk.win off IntKind.u8 L), (2, Blk.row 27 false none (Body.cells [Cell.int IntKind.u8 k, Cell.int IntKind.u8 l, Cell.int IntKind.u32 s, Cell.int IntKind.u16 d0, Cell.int IntKind.u16 d1, Cell.int IntKind.u16 d2, Cell.int IntKind.u16 d3, Cell.int IntKind.u16 sg, Cell.int IntKind.u16 db])), (3, Blk.row 95 false (some 64) (Body.ints IntKind.u8 (pre3_x1 n L) (pre3_x0 n))), (4, Blk.row 95 false (some 64) (Body.ints IntKind.u8 (pre3_x1 n L) (pre3_x0 n))), (5, Blk.row 62 false none (Body.cells [Cell.int IntKind.i64 (fndG (pre3_x1 n L) (few n) 4), Cell.int IntKind.i64 (fndG (pre3_x1 n L) (few n) 6), Cell.int IntKind.i64 (fndG (pre3_x1 n L) (few n) 8)])), (6, Blk.row 95 false (some 64) (Body.ints IntKind.u8 (pre3_x1 n L) (pre3_x0 n))), (7, Blk.map []), (8, Blk.row 113 false none (Body.cells [Cell.int IntKind.i64 (fndG (pre3_x1 n L) (few n) 4), Cell.int IntKind.i64 (fndG (pre3_x1 n L) (few n) 6), Cell.int IntKind.i64 (fndG (pre3_x1 n L) (few n) 8), Cell.slu 6 64 0 (few n), Cell.int IntKind.u32 sc, Cell.map 7, Cell.int IntKind.i64 0])), (9, Blk.row 62 false none (Body.cells [Cell.int IntKind.i64 (fndG (pre3_x1 n L) (few n) 4), Cell.int IntKind.i64 (fndG (pre3_x1 n L) (few n) 6), Cell.int IntKind.i64 (fndG (pre3_x1 n L) (few n) 8)])), (10, Blk.row 95 false none (Body.ints IntKind.u8 [] 0)), (11, Blk.row 95 false (some 64) (Body.ints IntKind.u8 (List.take 0 (List.drop 0 (repl z64 0)) ++ List.take (pre3_x6 n) (List.drop 0 (pre3_x1 n L))) (pre3_x7 n))), (12, Blk.row 4 false none (Body.bools (repl [false] (↑(few n) : Int).toNat) (↑(few n) : Int).toNat)), (13, Blk.row 65 false none (Body.cells [Cell.int IntKind.i64 (fndG (pre3_x1 n L) (few n) 4), Cell.int IntKind.i64 (fndG (pre3_x1 n L) (few n) 6), Cell.int IntKind.i64 (fndG (pre3_x1 n L) (few n) 8), Cell.slu 11 64 0 (pre3_x11 n), Cell.int IntKind.u32 sc, Cell.sl 12 0 (↑(few n) : Int).toNat (↑(few n) : Int).toNat, Cell.int IntKind.i64 0]))], 14, []⟩))) )) ) else none) ) else none) )) ) else none) ) else none) )) ))
theorem pre3_tree (n off cap : Nat) (sc i : Int) (k l : Int) (s d0 : Int) (d1 d2 : Int) (d3 sg db : Int) (fs : Bool) (L : List Int) (M : S → Prop) (R : X → Option (List AV) → Prop) : pre3 n off cap sc i k l s d0 d1 d2 d3 sg db fs L M R = pre3_t n off cap sc i k l s d0 d1 d2 d3 sg db fs L M R := by kernel_rfl
noncomputable abbrev fst3_x0 (n : Nat) : Nat := 64 * n
noncomputable def fst3_t (off : Nat) (G F : List Int) (n : Nat) (a b : Int) (c sc : Int) (i k : Int) (l s : Int) (d0 d1 : Int) (d2 d3 : Int) (sg db : Int) (fs : Bool) (L : List Int) (W : List Bool) (out : Int) (Q : X → S → Prop) : Option Prop := (bif fs then ( some ((All [L.length = (fst3_x0 n), (fst3_x0 n) = (fst3_x0 n), n = n, n = n, n = n, W.length = n, a < 9223372036854775808, U32 sc, 2 ≤ n, n < 9223372036854775807, Bytes L, L.length = (fst3_x0 n), (fst3_x0 n) = (fst3_x0 n), geoB a b c = true] ∧ ((true = true) ∧ Q (X.normal) (s3b off G F n a b c sc i k l s d0 d1 d2 d3 sg db (runS a b c n sc (L, [], out)).1 (runS a b c n sc (L, [], out)).2.1 (runR a b c n sc (L, W, out)).2.1 (runS a b c n sc (L, [], out)).2.2 (runR a b c n sc (L, W, out)).1 (runR a b c n sc (L, W, out)).2.2)))) ) else ( some ((All [] ∧ ((true = true) ∧ Q (X.normal) (s3b off G F n a b c sc i k l s d0 d1 d2 d3 sg db L [] W out L out)))) ))
theorem fst3_tree (off : Nat) (G F : List Int) (n : Nat) (a b : Int) (c sc : Int) (i k : Int) (l s : Int) (d0 d1 : Int) (d2 d3 : Int) (sg db : Int) (fs : Bool) (L : List Int) (W : List Bool) (out : Int) (Q : X → S → Prop) : fst3 off G F n a b c sc i k l s d0 d1 d2 d3 sg db fs L W out Q = fst3_t off G F n a b c sc i k l s d0 d1 d2 d3 sg db fs L W out Q := by kernel_rfl
noncomputable abbrev fin3_x0 (n : Nat) : Nat := 64 * n
noncomputable abbrev fin3_x1 (n : Nat) (a b : Int) (c sc : Int) (i k : Int) (l s : Int) (d0 d1 : Int) (d2 d3 : Int) (sg db : Int) (L : List Int) (lm : List (Int × Int)) (out : Int) : List Int := (wr63 a b c n sc (L, lm, out) i { k := k, l := l, s := s, d0 := d0, d1 := d1, d2 := d2, d3 := d3, sg := sg, db := db }).snd.fst
noncomputable abbrev fin3_x2 (n : Nat) (a b : Int) (c sc : Int) (i k : Int) (l s : Int) (d0 d1 : Int) (d2 d3 : Int) (sg db : Int) (L : List Int) (lm : List (Int × Int)) (out : Int) : Int := (wr63 a b c n sc (L, lm, out) i { k := k, l := l, s := s, d0 := d0, d1 := d1, d2 := d2, d3 := d3, sg := sg, db := db }).snd.snd.snd
noncomputable abbrev fin3_x3 (n : Nat) (a b : Int) (c sc : Int) (i k : Int) (l s : Int) (d0 d1 : Int) (d2 d3 : Int) (sg db : Int) (L : List Int) (lm : List (Int × Int)) (out : Int) : List Int := (fldR a b c n sc ((fin3_x1 n a b c sc i k l s d0 d1 d2 d3 sg db L lm out), (wr63 a b c n sc (L, lm, out) i { k := k, l := l, s := s, d0 := d0, d1 := d1, d2 := d2, d3 := d3, sg := sg, db := db }).snd.snd.fst, (fin3_x2 n a b c sc i k l s d0 d1 d2 d3 sg db L lm out))).fst
noncomputable abbrev fin3_x4 (n : Nat) (a b : Int) (c sc : Int) (i k : Int) (l s : Int) (d0 d1 : Int) (d2 d3 : Int) (sg db : Int) (L : List Int) (W : List Bool) (out : Int) : List Int := (wr24 a b c n sc (L, W, out) i { k := k, l := l, s := s, d0 := d0, d1 := d1, d2 := d2, d3 := d3, sg := sg, db := db }).snd.fst
noncomputable abbrev fin3_x5 (n : Nat) (a b : Int) (c sc : Int) (i k : Int) (l s : Int) (d0 d1 : Int) (d2 d3 : Int) (sg db : Int) (L : List Int) (W : List Bool) (out : Int) : Int := (wr24 a b c n sc (L, W, out) i { k := k, l := l, s := s, d0 := d0, d1 := d1, d2 := d2, d3 := d3, sg := sg, db := db }).snd.snd.snd
noncomputable abbrev fin3_x6 (n : Nat) (a b : Int) (c sc : Int) (i k : Int) (l s : Int) (d0 d1 : Int) (d2 d3 : Int) (sg db : Int) (L : List Int) (W : List Bool) (out : Int) : List Int := (fldRF a b c n sc ((fin3_x4 n a b c sc i k l s d0 d1 d2 d3 sg db L W out), (wr24 a b c n sc (L, W, out) i { k := k, l := l, s := s, d0 := d0, d1 := d1, d2 := d2, d3 := d3, sg := sg, db := db }).snd.snd.fst, (fin3_x5 n a b c sc i k l s d0 d1 d2 d3 sg db L W out))).fst
noncomputable abbrev fin3_x7 (n : Nat) (a b : Int) (c sc : Int) (i k : Int) (l s : Int) (d0 d1 : Int) (d2 d3 : Int) (sg db : Int) (L : List Int) (W : List Bool) (out : Int) : Int := (fldRF a b c n sc ((fin3_x4 n a b c sc i k l s d0 d1 d2 d3 sg db L W out), (wr24 a b c n sc (L, W, out) i { k := k, l := l, s := s, d0 := d0, d1 := d1, d2 := d2, d3 := d3, sg := sg, db := db }).snd.snd.fst, (fin3_x5 n a b c sc i k l s d0 d1 d2 d3 sg db L W out))).snd.snd
noncomputable abbrev fin3_x8 (n : Nat) (a b : Int) (c sc : Int) (i k : Int) (l s : Int) (d0 d1 : Int) (d2 d3 : Int) (sg db : Int) (L : List Int) (lm : List (Int × Int)) (out : Int) : Int := (fldR a b c n sc ((fin3_x1 n a b c sc i k l s d0 d1 d2 d3 sg db L lm out), (wr63 a b c n sc (L, lm, out) i { k := k, l := l, s := s, d0 := d0, d1 := d1, d2 := d2, d3 := d3, sg := sg, db := db }).snd.snd.fst, (fin3_x2 n a b c sc i k l s d0 d1 d2 d3 sg db L lm out))).snd.snd
noncomputable def fin3_t (off : Nat) (G F : List Int) (n : Nat) (a b : Int) (c sc : Int) (i k : Int) (l s : Int) (d0 d1 : Int) (d2 d3 : Int) (sg db : Int) (L : List Int) (lm : List (Int × Int)) (W : List Bool) (out : Int) (R : X → Option (List AV) → Prop) : Option Prop := (bif !((inoG a b c L n i).k == (inoG a b c L n i).k && ((inoG a b c L n i).l == (inoG a b c L n i).l && ((inoG a b c L n i).s == (inoG a b c L n i).s && ((inoG a b c L n i).d0 == (inoG a b c L n i).d0 && ((inoG a b c L n i).d1 == (inoG a b c L n i).d1 && ((inoG a b c L n i).d2 == (inoG a b c L n i).d2 && ((inoG a b c L n i).d3 == (inoG a b c L n i).d3 && true))) && ((inoG a b c L n i).sg == (inoG a b c L n i).sg && ((inoG a b c L n i).db == (inoG a b c L n i).db && true)))))) then ( some ((All [L.length = (fin3_x0 n), (fin3_x0 n) = (fin3_x0 n), Bytes L, L.length = (fin3_x0 n), (fin3_x0 n) = (fin3_x0 n)] ∧ R (X.ret) (some [AV.c (Cell.bool false)]))) ) else ( (bif !inoOk a b c L n i == inoOk a b c L n i then ( some ((All [L.length = (fin3_x0 n), (fin3_x0 n) = (fin3_x0 n), Bytes L, L.length = (fin3_x0 n), (fin3_x0 n) = (fin3_x0 n)] ∧ R (X.ret) (some [AV.c (Cell.bool false)]))) ) else ( (bif !(wr63 a b c n sc (L, lm, out) i { k := k, l := l, s := s, d0 := d0, d1 := d1, d2 := d2, d3 := d3, sg := sg, db := db }).fst == (wr24 a b c n sc (L, W, out) i { k := k, l := l, s := s, d0 := d0, d1 := d1, d2 := d2, d3 := d3, sg := sg, db := db }).fst then ( some ((All [L.length = (fin3_x0 n), (fin3_x0 n) = (fin3_x0 n), n = n, n = n, n = n, W.length = n, Bytes L, a < 9223372036854775808, U32 sc, In9 { k := k, l := l, s := s, d0 := d0, d1 := d1, d2 := d2, d3 := d3, sg := sg, db := db }, L.length = (fin3_x0 n), (fin3_x0 n) = (fin3_x0 n), L.length = (fin3_x0 n), (fin3_x0 n) = (fin3_x0 n), Bytes L, L.length = (fin3_x0 n), (fin3_x0 n) = (fin3_x0 n)] ∧ R (X.ret) (some [AV.c (Cell.bool false)]))) ) else ( some ((All [(fin3_x3 n a b c sc i k l s d0 d1 d2 d3 sg db L lm out).length = (fin3_x0 n), (fin3_x0 n) = (fin3_x0 n), n ≠ 0, n ≤ 140, a = a, b = b, c = c, sc = sc, n = n, (fin3_x0 n) = (fin3_x0 n), n = n, n = n, n = n, (fin3_x6 n a b c sc i k l s d0 d1 d2 d3 sg db L W out) = (fin3_x3 n a b c sc i k l s d0 d1 d2 d3 sg db L lm out), (fin3_x7 n a b c sc i k l s d0 d1 d2 d3 sg db L W out) = (fin3_x8 n a b c sc i k l s d0 d1 d2 d3 sg db L lm out), Sim n ((fin3_x3 n a b c sc i k l s d0 d1 d2 d3 sg db L lm out), (fldR a b c n sc ((fin3_x1 n a b c sc i k l s d0 d1 d2 d3 sg db L lm out), (wr63 a b c n sc (L, lm, out) i { k := k, l := l, s := s, d0 := d0, d1 := d1, d2 := d2, d3 := d3, sg := sg, db := db }).snd.snd.fst, (fin3_x2 n a b c sc i k l s d0 d1 d2 d3 sg db L lm out))).snd.fst, (fin3_x8 n a b c sc i k l s d0 d1 d2 d3 sg db L lm out)) ((fin3_x6 n a b c sc i k l s d0 d1 d2 d3 sg db L W out), (fldRF a b c n sc ((fin3_x4 n a b c sc i k l s d0 d1 d2 d3 sg db L W out), (wr24 a b c n sc (L, W, out) i { k := k, l := l, s := s, d0 := d0, d1 := d1, d2 := d2, d3 := d3, sg := sg, db := db }).snd.snd.fst, (fin3_x5 n a b c sc i k l s d0 d1 d2 d3 sg db L W out))).snd.fst, (fin3_x7 n a b c sc i k l s d0 d1 d2 d3 sg db L W out)), (fin3_x4 n a b c sc i k l s d0 d1 d2 d3 sg db L W out).length = (fin3_x0 n), (fin3_x0 n) = (fin3_x0 n), n = n, n = n, n = n, (wr24 a b c n sc (L, W, out) i { k := k, l := l, s := s, d0 := d0, d1 := d1, d2 := d2, d3 := d3, sg := sg, db := db }).snd.snd.fst.length = n, Bytes (fin3_x4 n a b c sc i k l s d0 d1 d2 d3 sg db L W out), a < 9223372036854775808, U32 sc, (fin3_x1 n a b c sc i k l s d0 d1 d2 d3 sg db L lm out).length = (fin3_x0 n), (fin3_x0 n) = (fin3_x0 n), (↑n : Int) = 2 + a * (2 + b + c), geoB a b c = true, ByA (fin3_x1 n a b c sc i k l s d0 d1 d2 d3 sg db L lm out) n, (fin3_x1 n a b c sc i k l s d0 d1 d2 d3 sg db L lm out).length = (fin3_x0 n), (fin3_x0 n) = (fin3_x0 n), n ≠ 0, n ≤ 140, a = a, b = b, c = c, sc = sc, n = n, (fin3_x0 n) = (fin3_x0 n), n = n, n = n, n = n, (fin3_x4 n a b c sc i k l s d0 d1 d2 d3 sg db L W out) = (fin3_x1 n a b c sc i k l s d0 d1 d2 d3 sg db L lm out), (fin3_x5 n a b c sc i k l s d0 d1 d2 d3 sg db L W out) = (fin3_x2 n a b c sc i k l s d0 d1 d2 d3 sg db L lm out), Sim n ((fin3_x1 n a b c sc i k l s d0 d1 d2 d3 sg db L lm out), (wr63 a b c n sc (L, lm, out) i { k := k, l := l, s := s, d0 := d0, d1 := d1, d2 := d2, d3 := d3, sg := sg, db := db }).snd.snd.fst, (fin3_x2 n a b c sc i k l s d0 d1 d2 d3 sg db L lm out)) ((fin3_x4 n a b c sc i k l s d0 d1 d2 d3 sg db L W out), (wr24 a b c n sc (L, W, out) i { k := k, l := l, s := s, d0 := d0, d1 := d1, d2 := d2, d3 := d3, sg := sg, db := db }).snd.snd.fst, (fin3_x5 n a b c sc i k l s d0 d1 d2 d3 sg db L W out)), L.length = (fin3_x0 n), (fin3_x0 n) = (fin3_x0 n), n = n, n = n, n = n, W.length = n, Bytes L, a < 9223372036854775808, U32 sc, In9 { k := k, l := l, s := s, d0 := d0, d1 := d1, d2 := d2, d3 := d3, sg := sg, db := db }, L.length = (fin3_x0 n), (fin3_x0 n) = (fin3_x0 n), L.length = (fin3_x0 n), (fin3_x0 n) = (fin3_x0 n), Bytes L, L.length = (fin3_x0 n), (fin3_x0 n) = (fin3_x0 n)] ∧ R (X.ret) (some [AV.c (Cell.bool true)]))) )) )) ))
theorem fin3_tree (off : Nat) (G F : List Int) (n : Nat) (a b : Int) (c sc : Int) (i k : Int) (l s : Int) (d0 d1 : Int) (d2 d3 : Int) (sg db : Int) (L : List Int) (lm : List (Int × Int)) (W : List Bool) (out : Int) (R : X → Option (List AV) → Prop) : fin3 off G F n a b c sc i k l s d0 d1 d2 d3 sg db L lm W out R = fin3_t off G F n a b c sc i k l s d0 d1 d2 d3 sg db L lm W out R := by kernel_rfl

abbrev End3 : X → S → Prop := EndV Tryz.prog 100 Tryz.f3.results.toList (.one (.c (.bool true)))
abbrev R3 : X → Option (List AV) → Prop := RetX (.one (.c (.bool true)))
section
variable {off n cap : Nat} {sc i k l s d0 d1 d2 d3 sg db : Int} {fs : Bool} {L : List Int}
theorem pre3_ok (hL : L.length = 64 * n) (hc : n ≤ cap) (hn : n ≠ 0) (hy : Bytes L)
    (hM : ∀ a b c : Int, geoB a b c = true → (few n : Int) = 2 + a * (2 + b + c) → Tr Tryz.prog 100 (tailN 6 c3) (s3a off L (L.take (64 * few n)) (few n) a b c sc i k l s d0 d1 d2 d3 sg db fs (L.take (64 * few n)) (repl [false] (few n)) 0 (.map [])) End3) :
    Tr Tryz.prog 100 c3 (s30 sc i k l s d0 d1 d2 d3 sg db fs (.sl 0 off n cap) (.win off .u8 L)) End3 := by
  refine Tr.pieces fit3 (keep := [2, 4, 8, 11, 13]) (m := 6) (.of_eq (pre3_tree n off cap sc i k l s d0 d1 d2 d3 sg db fs L (fun s => Tr Tryz.prog 100 (tailN 6 c3) s End3) R3) ?_)
  have hk := few_le n
  have hk0 := few_ne hn
  have hF : (L.take (64 * few n)).length = 64 * few n := by simp; omega
  have hyF : Bytes (L.take (64 * few n)) := fun x hx => hy x (List.mem_of_mem_take hx)
  unfold pre3_t
  have x1' : pre3_x1 n L = L.take (64 * few n) := rfl
  have x0 : pre3_x0 n = 64 * few n := rfl
  have x6 : pre3_x6 n = few n * 64 := rfl
  have x7 : pre3_x7 n = 64 * few n := by show 0 + pre3_x6 n = _; rw [x6]; omega
  have x11 : pre3_x11 n = few n := by show 0 + few n = _; omega
  have hcl : List.take 0 (List.drop 0 (repl z64 0)) ++ List.take (pre3_x6 n) (List.drop 0 (pre3_x1 n L)) = L.take (64 * few n) := by
    rw [x6, cl_eq, List.drop_zero, x1', List.take_of_length_le (by omega)]
  have x4 : pre3_x4 n L = false := by show (fndE (pre3_x1 n L) (few n) != fndE (pre3_x1 n L) (few n)) = false; simp
  have x3 : pre3_x3 n L = (fndE (L.take (64 * few n)) (few n) != 0) := rfl
  cases he : (fndE (L.take (64 * few n)) (few n) != 0) with
  | true =>
    rw [x3, he]
    refine .yes rfl (.yes rfl (.no x4 ⟨?_, rfl, _, rfl, rfl⟩))
    exact ⟨hF, rfl, hyF, hF, rfl, hF, rfl, hk0, hk.1, rfl, hL, hc, hn, trivial⟩
  | false =>
    have hok := find_ok he
    have hg := find_geo hok
    have ht := find_tot hok
    unfold tot at ht
    rw [if_pos hg] at ht
    rw [x3, he]
    have x13 : pre3_x13 n = true := by
      show decide (0 < pre3_x11 n ∧ fits Tryz.prog.types[95]! (pre3_x11 n) = true) = true
      rw [x11]; exact decide_eq_true ⟨by omega, fits49 hk.1⟩
    have x10 : pre3_x10 n = true := by
      show decide (0 ≤ (few n : Int) ∧ (few n : Int) = (few n : Int) ∧ 1 * (few n : Int).toNat ≤ 1000000000 ∧ (few n : Int).toNat < 1000000000) = true
      simp; omega
    rw [x13, x10, x7, x0, hcl, x11, Int.toNat_natCast]
    refine .no rfl (.no rfl (.chk (by show decide (few n ≠ 0) = true; simp; omega) (.chk (by show decide (pre3_x7 n ≤ pre3_x0 n) = true; rw [x7, x0]; simp) (.no (beq0 (by omega)) (.chk rfl (.chk rfl (.no rfl ⟨?_, hM _ _ _ hg ht.symm⟩)))))))
    exact ⟨hF, rfl, hyF, hF, rfl, hk0, hk.1, hF, rfl, hF, rfl, hk0, hk.1, rfl, hL, hc, hn, trivial⟩
end
section
variable {off : Nat} {G F : List Int} {n : Nat} {a b c sc : Int} {i k l s d0 d1 d2 d3 sg db : Int}
theorem fin3_ok (hg : geoB a b c = true) (hm : (n : Int) = 2 + a * (2 + b + c)) (ha : a < 9223372036854775808) (hsc : U32 sc) (h0 : n ≠ 0) (hn : n ≤ 140) (hI : In9 ⟨k, l, s, d0, d1, d2, d3, sg, db⟩)
    {L : List Int} {lm : List (Int × Int)} {W : List Bool} {out : Int} (hS : Sim n (L, lm, out) (L, W, out)) (hK : RKeep n (L, W, out)) :
    Okp (fin3 off G F n a b c sc i k l s d0 d1 d2 d3 sg db L lm W out R3) := by
  have hl := hK.len
  have hW := hK.wro
  have hy := hK.byt
  obtain ⟨w1, w2⟩ := hS.w63 (a := a) (b := b) (c := c) (sc := sc) i ⟨k, l, s, d0, d1, d2, d3, sg, db⟩
  have k2 := hK.w24 (a := a) (b := b) (c := c) (sc := sc) (i := i) hI
  have w3 := w2.fldR (a := a) (b := b) (c := c) (sc := sc)
  have k3 : RKeep n (fldRF a b c n sc (wr24 a b c n sc (L, W, out) i ⟨k, l, s, d0, d1, d2, d3, sg, db⟩).2) := RKeep.flds _ _ _ k2
  have e1 := w2.img
  have e3 := w3.img
  rw [fin3_tree]
  refine .no (by simp) (.no (by simp) (.no (by rw [w1]; simp) ⟨?_, rfl, _, rfl, rfl⟩))
  have hl1 : (wr63 a b c n sc (L, lm, out) i ⟨k, l, s, d0, d1, d2, d3, sg, db⟩).2.1.length = 64 * n := by rw [e1]; exact k2.len
  have hy1 : ByA (wr63 a b c n sc (L, lm, out) i ⟨k, l, s, d0, d1, d2, d3, sg, db⟩).2.1 n := fun g _ _ x hx => k2.byt x (by
    rw [e1] at hx
    exact List.mem_of_mem_drop (List.mem_of_mem_take hx))
  have hl3 : (fldR a b c n sc (wr63 a b c n sc (L, lm, out) i ⟨k, l, s, d0, d1, d2, d3, sg, db⟩).2).1.length = 64 * n := by rw [e3]; exact k3.len
  exact ⟨hl3, rfl, h0, hn, rfl, rfl, rfl, rfl, rfl, rfl, rfl, rfl, rfl, e3.symm, w3.out.symm, w3, k2.len, rfl, rfl, rfl, rfl, k2.wro, k2.byt, ha, hsc, hl1, rfl, hm, hg, hy1, hl1, rfl, h0, hn, rfl, rfl, rfl, rfl, rfl, rfl, rfl, rfl, rfl, e1.symm, w2.out.symm, w2, hl, rfl, rfl, rfl, rfl, hW, hy, ha, hsc, hI, hl, rfl, hl, rfl, hy, hl, rfl, trivial⟩
end
end Go.Sx

namespace Go.Sx
open Go.Proofs Go.RowKit
set_option maxRecDepth 100000
theorem repl_get (n i : Nat) : (repl [false] n).getD i false = false := by
  induction n generalizing i with
  | zero => rfl
  | succ n ih =>
    show ([false] ++ repl [false] n).getD i false = false
    cases i with
    | zero => rfl
    | succ i => simpa using ih i
theorem repl_len (n : Nat) : (repl [false] n).length = n := by
  induction n with
  | zero => rfl
  | succ n ih => show ([false] ++ repl [false] n).length = n + 1; simp [ih]
theorem sim0 (n : Nat) (F : List Int) : Sim n (F, [], 0) (F, repl [false] n, 0) :=
  ⟨rfl, rfl, repl_len n, List.nodup_nil, fun x => ⟨fun h => absurd h List.not_mem_nil, fun ⟨_, _, h⟩ => by rw [repl_get] at h; cases h⟩⟩
section
variable {off : Nat} {G F : List Int} {n : Nat} {a b c sc : Int} {i k l s d0 d1 d2 d3 sg db : Int} {fs : Bool}
theorem as3_nx {L : List Int} {W : List Bool} {out : Int} : (asB 7 (.mapI none []) (s3a off G F n a b c sc i k l s d0 d1 d2 d3 sg db fs L W out (.map []))).nx = 14 := by kernel_rfl
theorem s3a_get {L : List Int} {W : List Bool} {out : Int} {mp : Blk} : (s3a off G F n a b c sc i k l s d0 d1 d2 d3 sg db fs L W out mp).hp.get 7 = some mp := by kernel_rfl
theorem runR_keep {sr : StR} (h : RKeep n sr) : RKeep n (runR a b c n sc sr) := by
  have k1 := h.wr (a := a) (b := b) (c := c) (sc := sc) (g := 0) (k := 1) (p := sup a b c) (sup_len _ _ _) (sup_bytes _ _ _)
  have k2 := k1.wr (a := a) (b := b) (c := c) (sc := sc) (g := 1) (k := 1) (p := sup a b c) (sup_len _ _ _) (sup_bytes _ _ _)
  have : ∀ (m : Nat) (st : StR) (i : Int), RKeep n st → RKeep n (secsF a b c n sc m st i) := by
    intro m
    induction m with
    | zero => exact fun _ _ h => h
    | succ m ih => exact fun _ i h => ih _ (i + 1) (h.sec i)
  exact this _ _ _ k2
theorem after3 (hsc : U32 sc) (h0 : n ≠ 0) (hn : n ≤ 140) (hF : F.length = 64 * n) (hyF : Bytes F) (hg : geoB a b c = true) (hm : (n : Int) = 2 + a * (2 + b + c)) (hI : In9 ⟨k, l, s, d0, d1, d2, d3, sg, db⟩) :
    Tr Tryz.prog 100 (tailN 6 c3) (s3a off G F n a b c sc i k l s d0 d1 d2 d3 sg db fs F (repl [false] n) 0 (.map [])) End3 := by
  have ha : a < 9223372036854775808 := by have := geoB_iff.1 hg; omega
  have h2 : 2 ≤ n := by have := mul_bd hg; omega
  have hS := sim0 n F
  have hK : RKeep n (F, repl [false] n, 0) := ⟨hF, repl_len n, hyF⟩
  refine Tr.see (See.as 7 (.mapI none []) s3a_get rfl rfl fun _ _ _ h => h) ?_
  refine Tr.seq (c := gL (tailN 6 c3)) (d := gR (tailN 6 c3)) (Tr.treeFL fit3 (m := 14) (by rw [as3_nx]; exact Nat.le_refl _) (.of_eq (fst3_tree ..) ?_))
  cases fs with
  | false =>
    refine .no rfl ⟨trivial, rfl, ?_⟩
    exact (Tr.treeR fit3 (Q := R3) (fin3_ok (off := off) (G := G) (F := F) (i := i) hg hm ha hsc h0 hn hI hS hK)).mono fun x s h => ⟨.inr h.1, h.2⟩
  | true =>
    have hr := hS.run (sc := sc) hg hm
    have kr := runR_keep (a := a) (b := b) (c := c) (sc := sc) hK
    refine .yes rfl ⟨⟨hF, rfl, rfl, rfl, rfl, repl_len n, ha, hsc, h2, by omega, hyF, hF, rfl, hg, trivial⟩, rfl, ?_⟩
    have e1 : (runR a b c n sc (F, repl [false] n, 0)).1 = (runS a b c n sc (F, [], 0)).1 := hr.img.symm
    have e2 : (runR a b c n sc (F, repl [false] n, 0)).2.2 = (runS a b c n sc (F, [], 0)).2.2 := hr.out.symm
    have hS' : Sim n ((runS a b c n sc (F, [], 0)).1, (runS a b c n sc (F, [], 0)).2.1, (runS a b c n sc (F, [], 0)).2.2) ((runS a b c n sc (F, [], 0)).1, (runR a b c n sc (F, repl [false] n, 0)).2.1, (runS a b c n sc (F, [], 0)).2.2) := by
      have := hr
      exact ⟨rfl, rfl, hr.wro, hr.nod, hr.key⟩
    have hK' : RKeep n ((runS a b c n sc (F, [], 0)).1, (runR a b c n sc (F, repl [false] n, 0)).2.1, (runS a b c n sc (F, [], 0)).2.2) := ⟨by rw [← e1]; exact kr.len, kr.wro, by rw [← e1]; exact kr.byt⟩
    rw [e1, e2]
    exact (Tr.treeR fit3 (Q := R3) (fin3_ok (off := off) (G := G) (F := F) (i := i) hg hm ha hsc h0 hn hI hS' hK')).mono fun x s h => ⟨.inr h.1, h.2⟩
end
/-! ### the law, whatever its arguments -/
section
variable {off n cap : Nat} {sc i k l s d0 d1 d2 d3 sg db : Int} {fs : Bool} {L : List Int}
theorem body3 (hL : L.length = 64 * n) (hc : n ≤ cap) (hn : n ≠ 0) (hy : Bytes L) (hsc : U32 sc) (hI : In9 ⟨k, l, s, d0, d1, d2, d3, sg, db⟩) :
    Tr Tryz.prog 100 c3 (s30 sc i k l s d0 d1 d2 d3 sg db fs (.sl 0 off n cap) (.win off .u8 L)) End3 :=
  pre3_ok hL hc hn hy fun a b c hg hm => after3 hsc (few_ne hn) (few_le n).1 (by have := (few_le n).2; simp; omega) (fun x hx => hy x (List.mem_of_mem_take hx)) hg hm hI
end
/-- no sectors -/
noncomputable def sgE3 : FuncId → Option SumA := fun f => match f with | 18 => some (pureSum Fi.fTrue) | 73 => some sumFind2 | _ => none
theorem fitE3 : Fit Tryz.prog (fun f => (sgE3 f).map toSum) := ⟨fit_ng, fit_mixed, SumAOK.sum fun f sm h => by
  unfold sgE3 at h
  split at h
  · cases h; exact Fi.fTrue_ok works28
  · cases h; exact sumFind2_ok
  · cases h⟩
section
variable (sc i k l s d0 d1 d2 d3 sg db : Int) (fs : Bool) (off cap : Nat)
noncomputable def non3n (R : X → Option (List AV) → Prop) : Option Prop := execA Tryz.prog sgE3 300 100 c3 ⟨sl3 .sl0 sc i k l s d0 d1 d2 d3 sg db fs, .nil, 0, []⟩ αT (fun x s α => some (All α.ob ∧ R x (resOf Tryz.prog 100 s Tryz.f3.results.toList)))
noncomputable def non3z (R : X → Option (List AV) → Prop) : Option Prop := execA Tryz.prog sgE3 300 100 c3 (s30 sc i k l s d0 d1 d2 d3 sg db fs (.sl 0 off 0 cap) (.win off .u8 [])) αT (fun x s α => some (All α.ob ∧ R x (resOf Tryz.prog 100 s Tryz.f3.results.toList)))
end
end Go.Sx

namespace Go.Sx
open Go.Proofs Go.RowKit
set_option maxRecDepth 100000
set_option linter.unusedVariables false
noncomputable def non3n_t (sc i : Int) (k l : Int) (s d0 : Int) (d1 d2 : Int) (d3 sg db : Int) (fs : Bool) (R : X → Option (List AV) → Prop) : Option Prop := some ((All [] ∧ R (X.ret) (some [AV.c (Cell.bool true)])))
theorem non3n_tree (sc i : Int) (k l : Int) (s d0 : Int) (d1 d2 : Int) (d3 sg db : Int) (fs : Bool) (R : X → Option (List AV) → Prop) : non3n sc i k l s d0 d1 d2 d3 sg db fs R = non3n_t sc i k l s d0 d1 d2 d3 sg db fs R := by kernel_rfl
noncomputable abbrev non3z_x0 (off cap : Nat) : Nat := if cap = 0 then off else off + 0
noncomputable abbrev non3z_x1 (off cap : Nat) : Nat := (non3z_x0 off cap) - off + 0
noncomputable def non3z_t (sc i : Int) (k l : Int) (s d0 : Int) (d1 d2 : Int) (d3 sg db : Int) (fs : Bool) (off cap : Nat) (R : X → Option (List AV) → Prop) : Option Prop := (bif decide (off ≤ (non3z_x0 off cap) ∧ (non3z_x1 off cap) ≤ 0) then ( some ((All [] ∧ R (X.ret) (some [AV.c (Cell.bool true)]))) ) else none)
theorem non3z_tree (sc i : Int) (k l : Int) (s d0 : Int) (d1 d2 : Int) (d3 sg db : Int) (fs : Bool) (off cap : Nat) (R : X → Option (List AV) → Prop) : non3z sc i k l s d0 d1 d2 d3 sg db fs off cap R = non3z_t sc i k l s d0 d1 d2 d3 sg db fs off cap R := by kernel_rfl

theorem body3_eq : Tryz.f3.body = some c3 := by kernel_rfl
abbrev inoVal (k l s d0 d1 d2 d3 sg db : Int) : Value := .agg #[.int .u8 k, .int .u8 l, .int .u32 s, .int .u16 d0, .int .u16 d1, .int .u16 d2, .int .u16 d3, .int .u16 sg, .int .u16 db]
/-- what a slice of sectors stands for -/
def SecV (w : World) (V : Value) (L : List Int) (n : Nat) : Prop := ∃ b off cap cs t fr, V = .slice (some ⟨b, off, none⟩) n cap ∧ n ≤ cap ∧ w.heap[b]? = some (.cells cs t fr) ∧ L.length = n * 64 ∧ off + n * 64 ≤ cs.size ∧ (cs.toList.drop off).take (n * 64) = L.map (Value.int .u8) ∧ Bytes L
section
variable {w : World} {sc i k l s d0 d1 d2 d3 sg db : Int} {fs : Bool}
theorem argT {ρ : Rho} : ArgsR ρ [.one (.c (.int .u32 sc)), .one (.c (.int .i64 i)), .one (.agg [.int .u8 k, .int .u8 l, .int .u32 s, .int .u16 d0, .int .u16 d1, .int .u16 d2, .int .u16 d3, .int .u16 sg, .int .u16 db]), .one (.c (.bool fs))] [.int .u32 sc, .int .i64 i, inoVal k l s d0 d1 d2 d3 sg db, .bool fs] :=
  ⟨_, _, rfl, ⟨_, _, rfl, ⟨_, _, ⟨[.int .u8 k, .int .u8 l, .int .u32 s, .int .u16 d0, .int .u16 d1, .int .u16 d2, .int .u16 d3, .int .u16 sg, .int .u16 db], ⟨_, _, rfl, ⟨_, _, rfl, ⟨_, _, rfl, ⟨_, _, rfl, ⟨_, _, rfl, ⟨_, _, rfl, ⟨_, _, rfl, ⟨_, _, rfl, ⟨_, _, rfl, rfl, rfl⟩, rfl⟩, rfl⟩, rfl⟩, rfl⟩, rfl⟩, rfl⟩, rfl⟩, rfl⟩, rfl⟩, ⟨_, _, rfl, rfl, rfl⟩, rfl⟩, rfl⟩, rfl⟩
theorem law3 (hsc : U32 sc) (hI : In9 ⟨k, l, s, d0, d1, d2, d3, sg, db⟩) {v0 : Value} (h0 : v0 = .slice none 0 0 ∨ ∃ n L, SecV w v0 L n) :
    Calls Tryz.prog 3 #[v0, .int .u32 sc, .int .i64 i, inoVal k l s d0 d1 d2 d3 sg db, .bool fs] w fun e w' => e = .returned (.bool true) ∧ Below w.heap.size w w' := by
  have fin : ∀ {e : Ending} {w' : World}, (∃ V, e = .returned V ∧ RVR rhoN (.one (.c (.bool true))) V ∧ Below w.heap.size w w') → e = .returned (.bool true) ∧ Below w.heap.size w w' := fun ⟨V, h1, h2, h3⟩ => by cases h2; exact ⟨h1, h3⟩
  rcases h0 with rfl | ⟨n, L, b, off, cap, cs, t, fr, rfl, hc, hb, hL, hsz, hcs, hy⟩
  · refine (law_none (v := .one (.c (.bool true))) Tryz.func3 body3_eq (sl3_ok .sl0 sc i k l s d0 d1 d2 d3 sg db fs) rfl ?_ (vs := [.slice none 0 0, .int .u32 sc, .int .i64 i, inoVal k l s d0 d1 d2 d3 sg db, .bool fs]) ?_).mono fun e w' h => fin h
    · exact (Tr.treeR (fuel := 300) (n := 100) (c := c3) (s := ⟨sl3 .sl0 sc i k l s d0 d1 d2 d3 sg db fs, .nil, 0, []⟩) (res := Tryz.f3.results.toList) fitE3 (Q := R3) (show Okp (non3n sc i k l s d0 d1 d2 d3 sg db fs R3) from .of_eq (non3n_tree ..) ⟨trivial, rfl, _, rfl, rfl⟩)).mono fun x s h => ⟨.inr h.1, h.2⟩
    · exact ⟨_, _, rfl, argT, rfl⟩
  · have hw : ∀ ρ c, BlkR ρ c (.win off .u8 L) (.cells cs t fr) := fun ρ c => ⟨cs, t, fr, rfl, by rw [hL]; exact hsz, by rw [hL]; exact hcs⟩
    by_cases hn : n = 0
    · subst hn
      have hL0 : L = [] := List.length_eq_zero_iff.1 (by rw [hL])
      subst hL0
      refine (law_two (v := .one (.c (.bool true))) (x := .win off .u8 []) (y := .win off .u8 []) Tryz.func3 body3_eq (sl3_ok (.sl 0 off 0 cap) sc i k l s d0 d1 d2 d3 sg db fs) rfl rfl rfl ?_ (c0 := 0) (c1 := 0) hb (hw _ _) hb (hw _ _) (vs := [.slice (some ⟨b, off, none⟩) 0 cap, .int .u32 sc, .int .i64 i, inoVal k l s d0 d1 d2 d3 sg db, .bool fs]) ?_).mono fun e w' h => fin h
      · refine (Tr.treeR (fuel := 300) (n := 100) (c := c3) (s := s30 sc i k l s d0 d1 d2 d3 sg db fs (.sl 0 off 0 cap) (.win off .u8 [])) (res := Tryz.f3.results.toList) fitE3 (Q := R3) (show Okp (non3z sc i k l s d0 d1 d2 d3 sg db fs off cap R3) from .of_eq (non3z_tree ..) ?_)).mono fun x s h => ⟨.inr h.1, h.2⟩
        unfold non3z_t
        have x0 : non3z_x0 off cap = off := by show (if cap = 0 then off else off + 0) = off; split <;> rfl
        have x1 : non3z_x1 off cap = 0 := by show non3z_x0 off cap - off + 0 = 0; rw [x0]; omega
        rw [x0, x1]
        exact .chk (by simp) ⟨trivial, rfl, _, rfl, rfl⟩
      · exact ⟨_, _, ⟨b, 0, rfl, rfl⟩, argT, rfl⟩
    · refine (law_two (v := .one (.c (.bool true))) (x := .win off .u8 L) (y := .win off .u8 L) Tryz.func3 body3_eq (sl3_ok (.sl 0 off n cap) sc i k l s d0 d1 d2 d3 sg db fs) rfl rfl rfl (body3 (by omega) hc hn hy hsc hI) (c0 := 0) (c1 := 0) hb (hw _ _) hb (hw _ _) (vs := [.slice (some ⟨b, off, none⟩) n cap, .int .u32 sc, .int .i64 i, inoVal k l s d0 d1 d2 d3 sg db, .bool fs]) ?_).mono fun e w' h => fin h
      exact ⟨_, _, ⟨b, 0, rfl, rfl⟩, argT, rfl⟩
end
end Go.Sx
