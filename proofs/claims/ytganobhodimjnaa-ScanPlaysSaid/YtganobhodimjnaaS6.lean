/-
  Parts of the executor Sx over the model's code (any program), or of this seat's walks: words and proofs that the row's text uses.
-/
import Derived.Test.YtganobhodimjnaaS1
import Derived.Test.YtganobhodimjnaaH6
import Derived.Test.YtganobhodimjnaaSxT
namespace Go.Sx
open Go.Proofs Go.RowKit
set_option maxRecDepth 100000
noncomputable abbrev pre6_x0 (n : Nat) : Nat := 64 * few n
noncomputable abbrev pre6_x1 (n : Nat) (L : List Int) : List Int := List.take (pre6_x0 n) L
noncomputable abbrev pre6_x2 (n : Nat) (L : List Int) : Int := fndE (pre6_x1 n L) (few n)
noncomputable abbrev pre6_x3 (n : Nat) (L : List Int) : Bool := (pre6_x2 n L) != 0
noncomputable abbrev pre6_x4 (n : Nat) (L : List Int) : Bool := (pre6_x2 n L) != (pre6_x2 n L)
noncomputable abbrev pre6_x5 (n : Nat) : Bool := decide (few n ≠ 0)
noncomputable abbrev pre6_x6 (n : Nat) : Nat := few n * 64
noncomputable abbrev pre6_x7 (n : Nat) : Nat := 0 + (pre6_x6 n)
noncomputable abbrev pre6_x8 (n : Nat) : Bool := decide ((pre6_x7 n) ≤ (pre6_x0 n))
noncomputable abbrev pre6_x9 (n : Nat) : Nat := 1 * (↑(few n) : Int).toNat
noncomputable abbrev pre6_x10 (n : Nat) : Bool := decide
  (0 ≤ (↑(few n) : Int) ∧
    (↑(few n) : Int) = (↑(few n) : Int) ∧ (pre6_x9 n) ≤ 1000000000 ∧ (↑(few n) : Int).toNat < 1000000000)
noncomputable abbrev pre6_x11 (n : Nat) : Nat := 0 + few n
noncomputable abbrev pre6_x12 (n : Nat) : Bool := fits Try.prog.types[49] (pre6_x11 n)
noncomputable abbrev pre6_x13 (n : Nat) : Bool := decide (0 < (pre6_x11 n) ∧ (pre6_x12 n) = true)
noncomputable def pre6_t (n : Nat) (off : Nat) (cap : Nat) (sc : Int) (av : RV) (g : Int) (L : List Int) (x1 : Blk) (M : S → Prop) (R : X → Option (List AV) → Prop) : Option Prop :=
 (bif (pre6_x3 n L) then (
  (bif (pre6_x3 n L) then (
   (bif (pre6_x4 n L) then (
    some ((All [(pre6_x1 n L).length = (pre6_x0 n), (pre6_x0 n) = (pre6_x0 n), Bytes (pre6_x1 n L), (pre6_x1 n L).length = (pre6_x0 n), (pre6_x0 n) = (pre6_x0 n), (pre6_x1 n L).length = (pre6_x0 n), (pre6_x0 n) = (pre6_x0 n), few n ≠ 0, few n ≤ 140, off = off, L.length = 64 * n, n ≤ cap, n ≠ 0] ∧ R (X.ret) (some [AV.c (Cell.bool false)])))
    ) else (
    some ((All [(pre6_x1 n L).length = (pre6_x0 n), (pre6_x0 n) = (pre6_x0 n), Bytes (pre6_x1 n L), (pre6_x1 n L).length = (pre6_x0 n), (pre6_x0 n) = (pre6_x0 n), (pre6_x1 n L).length = (pre6_x0 n), (pre6_x0 n) = (pre6_x0 n), few n ≠ 0, few n ≤ 140, off = off, L.length = 64 * n, n ≤ cap, n ≠ 0] ∧ R (X.ret) (some [AV.c (Cell.bool true)])))
    ))
   ) else (
   (bif (pre6_x5 n) then (
    (bif (pre6_x8 n) then (
     (bif (few n).beq 0 then (
      (bif (pre6_x10 n) then (
       (bif (pre6_x3 n L) then (
        some ((All [(pre6_x1 n L).length = (pre6_x0 n), (pre6_x0 n) = (pre6_x0 n), Bytes (pre6_x1 n L), (pre6_x1 n L).length = (pre6_x0 n), (pre6_x0 n) = (pre6_x0 n), (pre6_x1 n L).length = (pre6_x0 n), (pre6_x0 n) = (pre6_x0 n), few n ≠ 0, few n ≤ 140, off = off, L.length = 64 * n, n ≤ cap, n ≠ 0] ∧ R (X.ret) (some [AV.c (Cell.bool false)])))
        ) else (
        some ((All [(pre6_x1 n L).length = (pre6_x0 n), (pre6_x0 n) = (pre6_x0 n), Bytes (pre6_x1 n L), (pre6_x1 n L).length = (pre6_x0 n), (pre6_x0 n) = (pre6_x0 n), (pre6_x1 n L).length = (pre6_x0 n), (pre6_x0 n) = (pre6_x0 n), few n ≠ 0, few n ≤ 140, off = off, L.length = 64 * n, n ≤ cap, n ≠ 0] ∧ R (X.ret) (some [AV.c (Cell.bool false)])))
        ))
       ) else none)
      ) else (
      (bif (pre6_x13 n) then (
       (bif (pre6_x10 n) then (
        (bif (pre6_x3 n L) then (
         some ((All [(pre6_x1 n L).length = (pre6_x0 n), (pre6_x0 n) = (pre6_x0 n), Bytes (pre6_x1 n L), (pre6_x1 n L).length = (pre6_x0 n), (pre6_x0 n) = (pre6_x0 n), (pre6_x1 n L).length = (pre6_x0 n), (pre6_x0 n) = (pre6_x0 n), few n ≠ 0, few n ≤ 140, off = off, L.length = 64 * n, n ≤ cap, n ≠ 0] ∧ R (X.ret) (some [AV.c (Cell.bool false)])))
         ) else (
         some ((All [(pre6_x1 n L).length = (pre6_x0 n), (pre6_x0 n) = (pre6_x0 n), Bytes (pre6_x1 n L), (pre6_x1 n L).length = (pre6_x0 n), (pre6_x0 n) = (pre6_x0 n), (pre6_x1 n L).length = (pre6_x0 n), (pre6_x0 n) = (pre6_x0 n), few n ≠ 0, few n ≤ 140, off = off, L.length = 64 * n, n ≤ cap, n ≠ 0] ∧ R (X.ret) (some [AV.c (Cell.bool false)])))
         ))
        ) else none)
       ) else none)
      ))
     ) else none)
    ) else none)
   ))
  ) else (
  (bif (pre6_x3 n L) then (
   (bif (pre6_x4 n L) then (
    some ((All [(pre6_x1 n L).length = (pre6_x0 n), (pre6_x0 n) = (pre6_x0 n), Bytes (pre6_x1 n L), (pre6_x1 n L).length = (pre6_x0 n), (pre6_x0 n) = (pre6_x0 n), few n ≠ 0, few n ≤ 140, (pre6_x1 n L).length = (pre6_x0 n), (pre6_x0 n) = (pre6_x0 n), (pre6_x1 n L).length = (pre6_x0 n), (pre6_x0 n) = (pre6_x0 n), few n ≠ 0, few n ≤ 140, off = off, L.length = 64 * n, n ≤ cap, n ≠ 0] ∧ R (X.ret) (some [AV.c (Cell.bool false)])))
    ) else (
    some ((All [(pre6_x1 n L).length = (pre6_x0 n), (pre6_x0 n) = (pre6_x0 n), Bytes (pre6_x1 n L), (pre6_x1 n L).length = (pre6_x0 n), (pre6_x0 n) = (pre6_x0 n), few n ≠ 0, few n ≤ 140, (pre6_x1 n L).length = (pre6_x0 n), (pre6_x0 n) = (pre6_x0 n), (pre6_x1 n L).length = (pre6_x0 n), (pre6_x0 n) = (pre6_x0 n), few n ≠ 0, few n ≤ 140, off = off, L.length = 64 * n, n ≤ cap, n ≠ 0] ∧ R (X.ret) (some [AV.c (Cell.bool false)])))
    ))
   ) else (
   (bif (pre6_x5 n) then (
    (bif (pre6_x8 n) then (
     (bif (few n).beq 0 then (
      (bif (pre6_x10 n) then (
       (bif (pre6_x3 n L) then (
        some ((All [(pre6_x1 n L).length = (pre6_x0 n), (pre6_x0 n) = (pre6_x0 n), Bytes (pre6_x1 n L), (pre6_x1 n L).length = (pre6_x0 n), (pre6_x0 n) = (pre6_x0 n), few n ≠ 0, few n ≤ 140, (pre6_x1 n L).length = (pre6_x0 n), (pre6_x0 n) = (pre6_x0 n), (pre6_x1 n L).length = (pre6_x0 n), (pre6_x0 n) = (pre6_x0 n), few n ≠ 0, few n ≤ 140, off = off, L.length = 64 * n, n ≤ cap, n ≠ 0] ∧ R (X.ret) (some [AV.c (Cell.bool false)])))
        ) else (
        some ((All [(pre6_x1 n L).length = (pre6_x0 n), (pre6_x0 n) = (pre6_x0 n), Bytes (pre6_x1 n L), (pre6_x1 n L).length = (pre6_x0 n), (pre6_x0 n) = (pre6_x0 n), few n ≠ 0, few n ≤ 140, (pre6_x1 n L).length = (pre6_x0 n), (pre6_x0 n) = (pre6_x0 n), (pre6_x1 n L).length = (pre6_x0 n), (pre6_x0 n) = (pre6_x0 n), few n ≠ 0, few n ≤ 140, off = off, L.length = 64 * n, n ≤ cap, n ≠ 0] ∧ M (fgt [2, 3, 9, 11] 131 ⟨ofL [(2, av), (3, RV.one (AV.c (Cell.int IntKind.i64 g))), (9, RV.one (AV.c (Cell.ptr 7 0))), (11, RV.one (AV.c (Cell.ptr 11 0)))], ofL [(0, Blk.win off IntKind.u8 L), (1, x1), (2, Blk.row 49 false (some 64) (Body.ints IntKind.u8 (pre6_x1 n L) (pre6_x0 n))), (3, Blk.row 49 false (some 64) (Body.ints IntKind.u8 (pre6_x1 n L) (pre6_x0 n))), (4, Blk.row 23 false none
  (Body.cells
    [Cell.int IntKind.i64 (fndG (pre6_x1 n L) (few n) 4), Cell.int IntKind.i64 (fndG (pre6_x1 n L) (few n) 6),
      Cell.int IntKind.i64 (fndG (pre6_x1 n L) (few n) 8)])), (5, Blk.row 49 false (some 64) (Body.ints IntKind.u8 (pre6_x1 n L) (pre6_x0 n))), (6, Blk.map []), (7, Blk.row 89 false none
  (Body.cells
    [Cell.int IntKind.i64 (fndG (pre6_x1 n L) (few n) 4), Cell.int IntKind.i64 (fndG (pre6_x1 n L) (few n) 6),
      Cell.int IntKind.i64 (fndG (pre6_x1 n L) (few n) 8), Cell.slu 5 64 0 (few n), Cell.int IntKind.u32 sc,
      Cell.map 6, Cell.int IntKind.i64 0])), (8, Blk.row 23 false none
  (Body.cells
    [Cell.int IntKind.i64 (fndG (pre6_x1 n L) (few n) 4), Cell.int IntKind.i64 (fndG (pre6_x1 n L) (few n) 6),
      Cell.int IntKind.i64 (fndG (pre6_x1 n L) (few n) 8)])), (9, Blk.row 49 false none (Body.ints IntKind.u8 [] 0)), (10, Blk.row 4 false none (Body.bools (repl [false] (↑(few n) : Int).toNat) (↑(few n) : Int).toNat)), (11, Blk.row 107 false none
  (Body.cells
    [Cell.int IntKind.i64 (fndG (pre6_x1 n L) (few n) 4), Cell.int IntKind.i64 (fndG (pre6_x1 n L) (few n) 6),
      Cell.int IntKind.i64 (fndG (pre6_x1 n L) (few n) 8), Cell.sl 9 0 0 0, Cell.int IntKind.u32 sc,
      Cell.sl 10 0 (↑(few n) : Int).toNat (↑(few n) : Int).toNat, Cell.int IntKind.i64 0]))], 12, []⟩)))
        ))
       ) else none)
      ) else (
      (bif (pre6_x13 n) then (
       (bif (pre6_x10 n) then (
        (bif (pre6_x3 n L) then (
         some ((All [(pre6_x1 n L).length = (pre6_x0 n), (pre6_x0 n) = (pre6_x0 n), Bytes (pre6_x1 n L), (pre6_x1 n L).length = (pre6_x0 n), (pre6_x0 n) = (pre6_x0 n), few n ≠ 0, few n ≤ 140, (pre6_x1 n L).length = (pre6_x0 n), (pre6_x0 n) = (pre6_x0 n), (pre6_x1 n L).length = (pre6_x0 n), (pre6_x0 n) = (pre6_x0 n), few n ≠ 0, few n ≤ 140, off = off, L.length = 64 * n, n ≤ cap, n ≠ 0] ∧ R (X.ret) (some [AV.c (Cell.bool false)])))
         ) else (
         some ((All [(pre6_x1 n L).length = (pre6_x0 n), (pre6_x0 n) = (pre6_x0 n), Bytes (pre6_x1 n L), (pre6_x1 n L).length = (pre6_x0 n), (pre6_x0 n) = (pre6_x0 n), few n ≠ 0, few n ≤ 140, (pre6_x1 n L).length = (pre6_x0 n), (pre6_x0 n) = (pre6_x0 n), (pre6_x1 n L).length = (pre6_x0 n), (pre6_x0 n) = (pre6_x0 n), few n ≠ 0, few n ≤ 140, off = off, L.length = 64 * n, n ≤ cap, n ≠ 0] ∧ M (fgt [2, 3, 9, 11] 131 ⟨ofL [(2, av), (3, RV.one (AV.c (Cell.int IntKind.i64 g))), (9, RV.one (AV.c (Cell.ptr 7 0))), (11, RV.one (AV.c (Cell.ptr 12 0)))], ofL [(0, Blk.win off IntKind.u8 L), (1, x1), (2, Blk.row 49 false (some 64) (Body.ints IntKind.u8 (pre6_x1 n L) (pre6_x0 n))), (3, Blk.row 49 false (some 64) (Body.ints IntKind.u8 (pre6_x1 n L) (pre6_x0 n))), (4, Blk.row 23 false none
  (Body.cells
    [Cell.int IntKind.i64 (fndG (pre6_x1 n L) (few n) 4), Cell.int IntKind.i64 (fndG (pre6_x1 n L) (few n) 6),
      Cell.int IntKind.i64 (fndG (pre6_x1 n L) (few n) 8)])), (5, Blk.row 49 false (some 64) (Body.ints IntKind.u8 (pre6_x1 n L) (pre6_x0 n))), (6, Blk.map []), (7, Blk.row 89 false none
  (Body.cells
    [Cell.int IntKind.i64 (fndG (pre6_x1 n L) (few n) 4), Cell.int IntKind.i64 (fndG (pre6_x1 n L) (few n) 6),
      Cell.int IntKind.i64 (fndG (pre6_x1 n L) (few n) 8), Cell.slu 5 64 0 (few n), Cell.int IntKind.u32 sc,
      Cell.map 6, Cell.int IntKind.i64 0])), (8, Blk.row 23 false none
  (Body.cells
    [Cell.int IntKind.i64 (fndG (pre6_x1 n L) (few n) 4), Cell.int IntKind.i64 (fndG (pre6_x1 n L) (few n) 6),
      Cell.int IntKind.i64 (fndG (pre6_x1 n L) (few n) 8)])), (9, Blk.row 49 false none (Body.ints IntKind.u8 [] 0)), (10, Blk.row 49 false (some 64)
  (Body.ints IntKind.u8
    (List.take 0 (List.drop 0 (repl z64 0)) ++ List.take (pre6_x6 n) (List.drop 0 (pre6_x1 n L))) (pre6_x7 n))), (11, Blk.row 4 false none (Body.bools (repl [false] (↑(few n) : Int).toNat) (↑(few n) : Int).toNat)), (12, Blk.row 107 false none
  (Body.cells
    [Cell.int IntKind.i64 (fndG (pre6_x1 n L) (few n) 4), Cell.int IntKind.i64 (fndG (pre6_x1 n L) (few n) 6),
      Cell.int IntKind.i64 (fndG (pre6_x1 n L) (few n) 8), Cell.slu 10 64 0 (pre6_x11 n), Cell.int IntKind.u32 sc,
      Cell.sl 11 0 (↑(few n) : Int).toNat (↑(few n) : Int).toNat, Cell.int IntKind.i64 0]))], 13, []⟩)))
         ))
        ) else none)
       ) else none)
      ))
     ) else none)
    ) else none)
   ))
  ))
theorem pre6_tree (n : Nat) (off : Nat) (cap : Nat) (sc : Int) (av : RV) (g : Int) (L : List Int) (x1 : Blk) (M : S → Prop) (R : X → Option (List AV) → Prop) : pre6 n off cap sc av g L x1 M R = pre6_t n off cap sc av g L x1 M R := by kernel_rfl

abbrev End6 : X → S → Prop := EndV Try.prog 131 Try.f6.results.toList (.one (.c (.bool true)))
abbrev R6 : X → Option (List AV) → Prop := RetX (.one (.c (.bool true)))
section
variable {off n cap : Nat} {sc g : Int} {L : List Int} {av : RV} {x1 : Blk}
theorem pre6_ok (hL : L.length = 64 * n) (hc : n ≤ cap) (hn : n ≠ 0) (hy : Bytes L)
    (hM : ∀ a b c : Int, geoB a b c = true → (few n : Int) = 2 + a * (2 + b + c) → Tr Try.prog 131 (tailN 6 c6) (s6a off L (L.take (64 * few n)) (few n) a b c sc (L.take (64 * few n)) (repl [false] (few n)) 0 g av (.map []) x1) End6) :
    Tr Try.prog 131 c6 (s60 (.sl 0 off n cap) sc av g (.win off .u8 L) x1) End6 := by
  refine Tr.pieces fit6 (keep := [2, 3, 9, 11]) (m := 6) (.of_eq (pre6_tree n off cap sc av g L x1 (fun s => Tr Try.prog 131 (tailN 6 c6) s End6) R6) ?_)
  have hk := few_le n
  have hk0 := few_ne hn
  have hF : (L.take (64 * few n)).length = 64 * few n := by simp; omega
  have hyF : Bytes (L.take (64 * few n)) := fun x hx => hy x (List.mem_of_mem_take hx)
  unfold pre6_t
  have x1' : pre6_x1 n L = L.take (64 * few n) := rfl
  have x0 : pre6_x0 n = 64 * few n := rfl
  have x6 : pre6_x6 n = few n * 64 := rfl
  have x7 : pre6_x7 n = 64 * few n := by show 0 + pre6_x6 n = _; rw [x6]; omega
  have x11 : pre6_x11 n = few n := by show 0 + few n = _; omega
  have hcl : List.take 0 (List.drop 0 (repl z64 0)) ++ List.take (pre6_x6 n) (List.drop 0 (pre6_x1 n L)) = L.take (64 * few n) := by
    rw [x6, cl_eq, List.drop_zero, x1', List.take_of_length_le (by omega)]
  have x4 : pre6_x4 n L = false := by show (fndE (pre6_x1 n L) (few n) != fndE (pre6_x1 n L) (few n)) = false; simp
  have x3 : pre6_x3 n L = (fndE (L.take (64 * few n)) (few n) != 0) := rfl
  cases he : (fndE (L.take (64 * few n)) (few n) != 0) with
  | true =>
    rw [x3, he]
    refine .yes rfl (.yes rfl (.no x4 ⟨?_, rfl, _, rfl, rfl⟩))
    exact ⟨hF, rfl, hyF, hF, rfl, hF, rfl, hk0, hk.1, rfl, hL, hc, hn, trivial⟩
  | false =>
    have hok := find_ok he
    have hg := find_geo hok
    have ht := find_tot hok
    unfold tot at ht
    rw [if_pos hg] at ht
    rw [x3, he]
    have x13 : pre6_x13 n = true := by
      show decide (0 < pre6_x11 n ∧ fits Try.prog.types[49]! (pre6_x11 n) = true) = true
      rw [x11]; exact decide_eq_true ⟨by omega, fits49 hk.1⟩
    have x10 : pre6_x10 n = true := by
      show decide (0 ≤ (few n : Int) ∧ (few n : Int) = (few n : Int) ∧ 1 * (few n : Int).toNat ≤ 1000000000 ∧ (few n : Int).toNat < 1000000000) = true
      simp; omega
    rw [x13, x10, x7, x0, hcl, x11, Int.toNat_natCast]
    refine .no rfl (.no rfl (.chk (by show decide (few n ≠ 0) = true; simp; omega) (.chk (by show decide (pre6_x7 n ≤ pre6_x0 n) = true; rw [x7, x0]; simp) (.no (beq0 (by omega)) (.chk rfl (.chk rfl (.no rfl ⟨?_, hM _ _ _ hg ht.symm⟩)))))))
    exact ⟨hF, rfl, hyF, hF, rfl, hk0, hk.1, hF, rfl, hF, rfl, hk0, hk.1, rfl, hL, hc, hn, trivial⟩
end
end Go.Sx

namespace Go.Sx
open Go.Proofs Go.RowKit
set_option maxRecDepth 100000
section
variable {off : Nat} {G : List Int} {oA nA cA : Nat} {A F : List Int} {n : Nat} {a b c sc : Int} {g : Int}
theorem x116_eq (i : Int) : rnd6_x116 oA A i = (List.range 54).map fun t => A.getD (rnd6_x1 oA i + 2 + t) 0 := by kernel_rfl
theorem s6c_nx {L : List Int} {l : List (Int × Int)} {W : List Bool} {out i : Int} : (s6c off G oA nA cA A F n a b c sc L l W out g i).nx = 13 := by kernel_rfl
theorem s6w_eq {L : List Int} {l : List (Int × Int)} {W : List Bool} {out i : Int} : s6w off G oA nA cA A F n a b c sc L l W out g i L out = s6c off G oA nA cA A F n a b c sc L l W out g i := rfl
theorem loop6 (hA : A.length = 56 * nA) (hyA : ∀ i t : Nat, i < nA → 2 ≤ t → t < 56 → 0 ≤ A.getD (i * 56 + t) 0 ∧ A.getD (i * 56 + t) 0 < 256) (ha : a < 9223372036854775808) (hsc : U32 sc) (h0 : n ≠ 0) (hn : n ≤ 140)
    {Q : X → S → Prop} (hq : ∀ L l W out i, Sim n (L, l, out) (L, W, out) → RKeep n (L, W, out) → Q (.exit 0) (s6c off G oA nA cA A F n a b c sc L l W out g i)) :
    ∀ (m : Nat) (i : Int) (L : List Int) (l : List (Int × Int)) (W : List Bool) (out : Int), 0 ≤ i → i + m = 12 → Sim n (L, l, out) (L, W, out) → RKeep n (L, W, out) → Tr Try.prog 131 (.loop l6) (s6c off G oA nA cA A F n a b c sc L l W out g i) Q := by
  intro m
  induction m with
  | zero =>
    intro i L l W out hi hm hS hK
    refine Tr.loop (Tr.treeFL fit6 (m := 13) (by rw [s6c_nx]; exact Nat.le_refl _) (.of_eq (rnd6_tree ..) ?_))
    unfold rnd6_t
    refine .fork (fun _ => .no (by simp; omega) ⟨trivial, rfl, hq _ _ _ _ _ hS hK⟩) (fun _ => ⟨trivial, rfl, hq _ _ _ _ _ hS hK⟩)
  | succ m ih =>
    intro i L l W out hi hm hS hK
    push_cast at hm
    refine Tr.loop (Tr.treeFL fit6 (m := 13) (by rw [s6c_nx]; exact Nat.le_refl _) (.of_eq (rnd6_tree ..) ?_))
    unfold rnd6_t
    refine .fork (fun h1 => .fork (fun h2 => ?_) (fun _ => ⟨trivial, rfl, hq _ _ _ _ _ hS hK⟩)) (fun _ => ⟨trivial, rfl, hq _ _ _ _ _ hS hK⟩)
    have h1 : i < nA := by simpa using h1
    obtain ⟨j, rfl⟩ := Int.eq_ofNat_of_zero_le hi
    have hj : j < nA := by omega
    have hx1 : rnd6_x1 oA (j : Int) = j * 56 := by show oA + (j : Int).toNat * 56 - oA = _; simp
    have hP : (rnd6_x116 oA A (j : Int)).length = 54 := by rw [x116_eq]; simp
    have hyP : Bytes (rnd6_x116 oA A (j : Int)) := fun x hx => by
      rw [x116_eq, hx1] at hx
      obtain ⟨t, ht, rfl⟩ := List.mem_map.1 hx
      rw [List.mem_range] at ht
      have := hyA j (2 + t) hj (by omega) (by omega)
      rw [← Nat.add_assoc] at this
      exact this
    have hw := hS.wr (a := a) (b := b) (c := c) (sc := sc) (rnd6_x2 oA A (j : Int)) (rnd6_x4 oA A (j : Int)) (rnd6_x116 oA A (j : Int))
    have hk := hK.wr (a := a) (b := b) (c := c) (sc := sc) (g := rnd6_x2 oA A (j : Int)) (k := rnd6_x4 oA A (j : Int)) hP hyP
    obtain ⟨w1, w2⟩ := hw
    have e1 : (wrF a b c n sc (L, W, out) (rnd6_x2 oA A (j : Int)) (rnd6_x4 oA A (j : Int)) (rnd6_x116 oA A (j : Int))).2.1 = (wrEnd a b c n sc out L l (rnd6_x2 oA A (j : Int)) (rnd6_x4 oA A (j : Int)) (rnd6_x116 oA A (j : Int))).2.1 := w2.img.symm
    have e2 : (wrF a b c n sc (L, W, out) (rnd6_x2 oA A (j : Int)) (rnd6_x4 oA A (j : Int)) (rnd6_x116 oA A (j : Int))).2.2.2 = (wrEnd a b c n sc out L l (rnd6_x2 oA A (j : Int)) (rnd6_x4 oA A (j : Int)) (rnd6_x116 oA A (j : Int))).2.2.2 := w2.out.symm
    have hl := hK.len
    have hW := hK.wro
    have hy := hK.byt
    have hi1 : IntKind.i64.wrap ((j : Int) + 1) = (j : Int) + 1 := IntWalk.i64_in _ (by omega)
    refine .chk (by simp; omega) (.chk (decide_eq_true ⟨by show oA ≤ oA + _; omega, ?_, rfl, ?_⟩) (.no (by simp) (.no (by simp) (.no ?_ ⟨?_, rfl, ?_⟩))))
    · show (oA + (j : Int).toNat * 56 - oA) % 56 = 0
      rw [Nat.add_sub_cancel_left]; exact Nat.mul_mod_left _ _
    · show oA + (j : Int).toNat * 56 - oA + 56 ≤ A.length
      rw [Nat.add_sub_cancel_left, hA, Int.toNat_natCast]; omega
    · have : (wrEnd a b c n sc out L l (rnd6_x2 oA A (j : Int)) (rnd6_x4 oA A (j : Int)) (rnd6_x116 oA A (j : Int))).1 = (wrF a b c n sc (L, W, out) (rnd6_x2 oA A (j : Int)) (rnd6_x4 oA A (j : Int)) (rnd6_x116 oA A (j : Int))).1 := w1
      rw [this]; simp
    · have hlen : (wrEnd a b c n sc out L l (rnd6_x2 oA A (j : Int)) (rnd6_x4 oA A (j : Int)) (rnd6_x116 oA A (j : Int))).2.1.length = 64 * n := by rw [← e1]; exact hk.len
      exact ⟨hlen, rfl, h0, hn, rfl, rfl, rfl, rfl, rfl, rfl, rfl, rfl, rfl, e1, e2, w2, hl, rfl, rfl, rfl, rfl, hW, hy, ha, hsc, hP, hl, rfl, hP, hl, rfl, hy, hl, rfl, trivial⟩
    · rw [e1, e2, s6w_eq, hi1]
      refine ih _ _ _ _ _ (by omega) (by omega) ?_ ?_
      · have := w2
        exact ⟨rfl, rfl, w2.wro, w2.nod, w2.key⟩
      · have := hk
        exact ⟨by rw [← e1]; exact hk.len, hk.wro, by rw [← e1]; exact hk.byt⟩
theorem fin6_ok (hg : geoB a b c = true) (hm : (n : Int) = 2 + a * (2 + b + c)) (ha : a < 9223372036854775808) (hsc : U32 sc) (h0 : n ≠ 0) (hn : n ≤ 140) {L : List Int} {l : List (Int × Int)} {W : List Bool} {out : Int} (hS : Sim n (L, l, out) (L, W, out)) (hK : RKeep n (L, W, out)) :
    Okp (fin6 off G oA A F n a b c sc L l W out g R6) ∧ Okp (fin6w off G F n a b c sc L l W out g R6) := by
  have h2 : 2 ≤ n := by
    have := mul_bd hg
    omega
  have hr := hS.run (sc := sc) hg hm
  have hl := hK.len
  have hW := hK.wro
  have hy := hK.byt
  have e1 : (runR a b c n sc (L, W, out)).1 = (runS a b c n sc (L, l, out)).1 := hr.img.symm
  have e2 : (runR a b c n sc (L, W, out)).2.2 = (runS a b c n sc (L, l, out)).2.2 := hr.out.symm
  have hlen : (runS a b c n sc (L, l, out)).1.length = 64 * n := (runS_inv (sc := sc) (st0 := (L, l, out)) hg hm hl).len
  have hob : ∀ (p : Prop), p → (All [(runR a b c n sc (L, W, out)).1.length = 64 * n, 64 * n = 64 * n, n = n, n = n, n = n, (runR a b c n sc (L, W, out)).2.1.length = n, a < 9223372036854775808, U32 sc, (runS a b c n sc (L, l, out)).1.length = 64 * n, 64 * n = 64 * n, n ≠ 0, n ≤ 140, a = a, b = b, c = c, sc = sc, n = n, 64 * n = 64 * n, n = n, n = n, n = n, (runR a b c n sc (L, W, out)).1 = (runS a b c n sc (L, l, out)).1, (runR a b c n sc (L, W, out)).2.2 = (runS a b c n sc (L, l, out)).2.2, Sim n ((runS a b c n sc (L, l, out)).1, (runS a b c n sc (L, l, out)).2.1, (runS a b c n sc (L, l, out)).2.2) ((runR a b c n sc (L, W, out)).1, (runR a b c n sc (L, W, out)).2.1, (runR a b c n sc (L, W, out)).2.2), L.length = 64 * n, 64 * n = 64 * n, n = n, n = n, n = n, W.length = n, a < 9223372036854775808, U32 sc, 2 ≤ n, n < 9223372036854775807, Bytes L, L.length = 64 * n, 64 * n = 64 * n, geoB a b c = true] ∧ p) := fun p hp =>
    ⟨⟨by rw [e1]; exact hlen, rfl, rfl, rfl, rfl, hr.wro, ha, hsc, hlen, rfl, h0, hn, rfl, rfl, rfl, rfl, rfl, rfl, rfl, rfl, rfl, e1, e2, hr, hl, rfl, rfl, rfl, rfl, hW, ha, hsc, h2, by omega, hy, hl, rfl, hg, trivial⟩, hp⟩
  constructor
  · rw [fin6_tree]
    exact .yes (by simp) (hob _ ⟨rfl, _, rfl, rfl⟩)
  · rw [fin6w_tree]
    exact .yes (by simp) (hob _ ⟨rfl, _, rfl, rfl⟩)
end
end Go.Sx

namespace Go.Sx
open Go.Proofs Go.RowKit
set_option maxRecDepth 100000
theorem repl_get (n i : Nat) : (repl [false] n).getD i false = false := by
  induction n generalizing i with
  | zero => rfl
  | succ n ih =>
    show ([false] ++ repl [false] n).getD i false = false
    cases i with
    | zero => rfl
    | succ i => simpa using ih i
theorem repl_len (n : Nat) : (repl [false] n).length = n := by
  induction n with
  | zero => rfl
  | succ n ih => show ([false] ++ repl [false] n).length = n + 1; simp [ih]
theorem sim0 (n : Nat) (F : List Int) : Sim n (F, [], 0) (F, repl [false] n, 0) :=
  ⟨rfl, rfl, repl_len n, List.nodup_nil, fun x => ⟨fun h => absurd h List.not_mem_nil, fun ⟨_, _, h⟩ => by rw [repl_get] at h; cases h⟩⟩
section
variable {off : Nat} {G : List Int} {oA nA cA : Nat} {A F : List Int} {n : Nat} {a b c sc : Int} {g : Int}
theorem fgt6 {L : List Int} {l : List (Int × Int)} {W : List Bool} {out i : Int} : fgt [3, 9, 11] 131 (s6c off G oA nA cA A F n a b c sc L l W out g i) = s6z off G F n a b c sc L l W out g (.recs oA ksA A) := by kernel_rfl
theorem s6a_nx {L : List Int} {W : List Bool} {out : Int} {av : RV} {mp x1 : Blk} : (s6a off G F n a b c sc L W out g av mp x1).nx = 13 := by kernel_rfl
theorem as6_nx {L : List Int} {W : List Bool} {out : Int} {av : RV} {x1 : Blk} : (asB 6 (.mapI none []) (s6a off G F n a b c sc L W out g av (.map []) x1)).nx = 13 := by kernel_rfl
theorem s6a_get {L : List Int} {W : List Bool} {out : Int} {av : RV} {mp x1 : Blk} : (s6a off G F n a b c sc L W out g av mp x1).hp.get 6 = some mp := by kernel_rfl
theorem after6 (hA : A.length = 56 * nA) (hyA : ∀ i t : Nat, i < nA → 2 ≤ t → t < 56 → 0 ≤ A.getD (i * 56 + t) 0 ∧ A.getD (i * 56 + t) 0 < 256) (hsc : U32 sc) (h0 : n ≠ 0) (hn : n ≤ 140) (hF : F.length = 64 * n) (hyF : Bytes F)
    (hg : geoB a b c = true) (hm : (n : Int) = 2 + a * (2 + b + c)) :
    Tr Try.prog 131 (tailN 6 c6) (s6a off G F n a b c sc F (repl [false] n) 0 g (.one (.c (.sl 1 oA nA cA))) (.map []) (.recs oA ksA A)) End6 := by
  have ha : a < 9223372036854775808 := by have := geoB_iff.1 hg; omega
  refine Tr.see (See.as 6 (.mapI none []) s6a_get rfl rfl fun _ _ _ h => h) ?_
  refine Tr.seq (c := gL (tailN 6 c6)) (d := gR (tailN 6 c6)) (Tr.seq (c := gL (gL (tailN 6 c6))) (d := .block 0 (.loop l6)) (Tr.treeFL fit6 (m := 13) (by rw [as6_nx]; exact Nat.le_refl _) (.of_eq (ini6_tree ..) ⟨trivial, rfl, ?_⟩)))
  refine Tr.block (loop6 hA hyA ha hsc h0 hn (fun L l W out i hS hK => ?_) 12 0 F [] (repl [false] n) 0 (by omega) (by omega) (sim0 n F) ⟨hF, repl_len n, hyF⟩)
  simp only [if_true]
  refine Tr.pre [3, 9, 11] ?_
  rw [fgt6]
  have := (fin6_ok (off := off) (G := G) (oA := oA) (A := A) (F := F) (g := g) hg hm ha hsc h0 hn hS hK).1
  exact (Tr.treeR fit6 (Q := R6) this).mono fun x s h => ⟨.inr h.1, h.2⟩
theorem after6n (hsc : U32 sc) (h0 : n ≠ 0) (hn : n ≤ 140) (hF : F.length = 64 * n) (hyF : Bytes F) (hg : geoB a b c = true) (hm : (n : Int) = 2 + a * (2 + b + c)) :
    Tr Try.prog 131 (tailN 6 c6) (s6a off G F n a b c sc F (repl [false] n) 0 g (.one (.c .sl0)) (.map []) (.win off .u8 G)) End6 := by
  have ha : a < 9223372036854775808 := by have := geoB_iff.1 hg; omega
  refine Tr.see (See.as 6 (.mapI none []) s6a_get rfl rfl fun _ _ _ h => h) ?_
  refine Tr.seq (c := gL (tailN 6 c6)) (d := gR (tailN 6 c6)) (Tr.treeFL fit6 (m := 13) (by rw [as6_nx]; exact Nat.le_refl _) (.of_eq (nil6_tree ..) ⟨trivial, rfl, ?_⟩))
  have := (fin6_ok (off := off) (G := G) (oA := 0) (A := []) (F := F) (g := g) hg hm ha hsc h0 hn (sim0 n F) ⟨hF, repl_len n, hyF⟩).2
  exact (Tr.treeR fit6 (Q := R6) this).mono fun x s h => ⟨.inr h.1, h.2⟩
end
/-! ### the law, whatever its arguments -/
section
variable {off n cap : Nat} {sc g : Int} {L : List Int} {oA nA cA : Nat} {A : List Int}
theorem body6 (hL : L.length = 64 * n) (hc : n ≤ cap) (hn : n ≠ 0) (hy : Bytes L) (hsc : U32 sc) (hA : A.length = 56 * nA) (hyA : ∀ i t : Nat, i < nA → 2 ≤ t → t < 56 → 0 ≤ A.getD (i * 56 + t) 0 ∧ A.getD (i * 56 + t) 0 < 256) :
    Tr Try.prog 131 c6 (s60 (.sl 0 off n cap) sc (.one (.c (.sl 1 oA nA cA))) g (.win off .u8 L) (.recs oA ksA A)) End6 :=
  pre6_ok hL hc hn hy fun a b c hg hm => after6 hA hyA hsc (few_ne hn) (few_le n).1 (by have := (few_le n).2; simp; omega) (fun x hx => hy x (List.mem_of_mem_take hx)) hg hm
theorem body6n (hL : L.length = 64 * n) (hc : n ≤ cap) (hn : n ≠ 0) (hy : Bytes L) (hsc : U32 sc) :
    Tr Try.prog 131 c6 (s60 (.sl 0 off n cap) sc (.one (.c .sl0)) g (.win off .u8 L) (.win off .u8 L)) End6 :=
  pre6_ok hL hc hn hy fun a b c hg hm => after6n hsc (few_ne hn) (few_le n).1 (by have := (few_le n).2; simp; omega) (fun x hx => hy x (List.mem_of_mem_take hx)) hg hm
/-- no sectors -/
noncomputable def sgE : FuncId → Option SumA := fun f => match f with | 13 => some (pureSum fYes) | 43 => some sumFind2 | _ => none
theorem fitE6 : Fit Try.prog (fun f => (sgE f).map toSum) := ⟨fit_ng, fit_mixed, SumAOK.sum fun f sm h => by
  unfold sgE at h
  split at h
  · cases h; exact fYes_ok works27
  · cases h; exact sumFind2_ok
  · cases h⟩
noncomputable def non6 (cl : Cell) (av : RV) (x0 x1 : Blk) (R : X → Option (List AV) → Prop) : Option Prop := execA Try.prog sgE 300 131 c6 (s60 cl sc av g x0 x1) αT (fun x s α => some (All α.ob ∧ R x (resOf Try.prog 131 s Try.f6.results.toList)))
theorem non6_nil (av : RV) (x0 x1 : Blk) (R : X → Option (List AV) → Prop) : non6 (sc := sc) (g := g) .sl0 av x0 x1 R = some (All [] ∧ R X.ret (some [AV.c (Cell.bool true)])) := by kernel_rfl
noncomputable def non6z (sc g : Int) (off cap : Nat) (av : RV) (x1 : Blk) (R : X → Option (List AV) → Prop) : Option Prop := non6 (sc := sc) (g := g) (.sl 0 off 0 cap) av (.win off .u8 []) x1 R
end
end Go.Sx

namespace Go.Sx
open Go.Proofs Go.RowKit
set_option maxRecDepth 100000
noncomputable abbrev non6z_x0 (off : Nat) (cap : Nat) : Nat := if cap = 0 then off else off + 0
noncomputable abbrev non6z_x1 (off : Nat) (cap : Nat) : Nat := (non6z_x0 off cap) - off + 0
noncomputable def non6z_t (sc : Int) (g : Int) (off : Nat) (cap : Nat) (av : RV) (x1 : Blk) (R : X → Option (List AV) → Prop) : Option Prop :=
 (bif decide (off ≤ (non6z_x0 off cap) ∧ (non6z_x1 off cap) ≤ 0) then (
  some ((All [] ∧ R (X.ret) (some [AV.c (Cell.bool true)])))
  ) else none)
theorem non6z_tree (sc : Int) (g : Int) (off : Nat) (cap : Nat) (av : RV) (x1 : Blk) (R : X → Option (List AV) → Prop) : non6z sc g off cap av x1 R = non6z_t sc g off cap av x1 R := by kernel_rfl
theorem body6_eq : Try.f6.body = some c6 := by kernel_rfl
noncomputable def non6n (sc g : Int) (R : X → Option (List AV) → Prop) : Option Prop := execA Try.prog sgE 300 131 c6 ⟨sl6 .sl0 sc .any g, .nil, 0, []⟩ αT (fun x s α => some (All α.ob ∧ R x (resOf Try.prog 131 s Try.f6.results.toList)))
theorem non6n_eq (sc g : Int) (R : X → Option (List AV) → Prop) : non6n sc g R = some (All [] ∧ R X.ret (some [AV.c (Cell.bool true)])) := by kernel_rfl
section
variable {w : World} {sc g : Int}
/-- what a slice of sectors stands for -/
def SecV (w : World) (V : Value) (L : List Int) (n : Nat) : Prop := ∃ b off cap cs t fr, V = .slice (some ⟨b, off, none⟩) n cap ∧ n ≤ cap ∧ w.heap[b]? = some (.cells cs t fr) ∧ L.length = n * 64 ∧ off + n * 64 ≤ cs.size ∧ (cs.toList.drop off).take (n * 64) = L.map (Value.int .u8) ∧ Bytes L
def ActV (w : World) (V : Value) (A : List Int) (n : Nat) : Prop := ∃ b off cap cs t fr, V = .slice (some ⟨b, off, none⟩) n cap ∧ n ≤ cap ∧ w.heap[b]? = some (.cells cs t fr) ∧ A.length = 56 * n ∧ off + 56 * n ≤ cs.size ∧ (cs.toList.drop off).take A.length = cyc ksA A ∧ ∀ i t : Nat, i < n → 2 ≤ t → t < 56 → 0 ≤ A.getD (i * 56 + t) 0 ∧ A.getD (i * 56 + t) 0 < 256
theorem law6 (hsc : U32 sc) {v0 v2 : Value} (h0 : v0 = .slice none 0 0 ∨ ∃ n L, SecV w v0 L n) (h2 : v2 = .slice none 0 0 ∨ ∃ n A, ActV w v2 A n) :
    Calls Try.prog 6 #[v0, .int .u32 sc, v2, .int .i64 g] w fun e w' => e = .returned (.bool true) ∧ Below w.heap.size w w' := by
  have fin : ∀ {e : Ending} {w' : World}, (∃ V, e = .returned V ∧ RVR rhoN (.one (.c (.bool true))) V ∧ Below w.heap.size w w') → e = .returned (.bool true) ∧ Below w.heap.size w w' := fun ⟨V, h1, h2, h3⟩ => by cases h2; exact ⟨h1, h3⟩
  rcases h0 with rfl | ⟨n, L, b, off, cap, cs, t, fr, rfl, hc, hb, hL, hsz, hcs, hy⟩
  · refine (law_none (v := .one (.c (.bool true))) Try.func6 body6_eq (sl6_ok .sl0 sc .any g) rfl ?_ (vs := [.slice none 0 0, .int .u32 sc, v2, .int .i64 g]) ?_).mono fun e w' h => fin h
    · exact (Tr.treeR (fuel := 300) (n := 131) (c := c6) (s := ⟨sl6 .sl0 sc .any g, .nil, 0, []⟩) (res := Try.f6.results.toList) fitE6 (Q := R6) (show Okp (non6n sc g R6) from .of_eq (non6n_eq sc g _) ⟨trivial, rfl, _, rfl, rfl⟩)).mono fun x s h => ⟨.inr h.1, h.2⟩
    · exact ⟨_, _, rfl, ⟨_, _, rfl, ⟨_, _, trivial, ⟨_, _, rfl, rfl, rfl⟩, rfl⟩, rfl⟩, rfl⟩
  · have hw : ∀ ρ c, BlkR ρ c (.win off .u8 L) (.cells cs t fr) := fun ρ c => ⟨cs, t, fr, rfl, by rw [hL]; exact hsz, by rw [hL]; exact hcs⟩
    by_cases hn : n = 0
    · subst hn
      have hL0 : L = [] := List.length_eq_zero_iff.1 (by rw [hL])
      subst hL0
      refine (law_two (v := .one (.c (.bool true))) (x := .win off .u8 []) (y := .win off .u8 []) Try.func6 body6_eq (sl6_ok (.sl 0 off 0 cap) sc .any g) rfl rfl rfl ?_ (c0 := 0) (c1 := 0) hb (hw _ _) hb (hw _ _) (vs := [.slice (some ⟨b, off, none⟩) 0 cap, .int .u32 sc, v2, .int .i64 g]) ?_).mono fun e w' h => fin h
      · refine (Tr.treeR (fuel := 300) (n := 131) (c := c6) (s := s60 (.sl 0 off 0 cap) sc .any g (.win off .u8 []) (.win off .u8 [])) (res := Try.f6.results.toList) fitE6 (Q := R6) (show Okp (non6z sc g off cap .any (.win off .u8 []) R6) from .of_eq (non6z_tree ..) ?_)).mono fun x s h => ⟨.inr h.1, h.2⟩
        unfold non6z_t
        have x0 : non6z_x0 off cap = off := by show (if cap = 0 then off else off + 0) = off; split <;> rfl
        have x1 : non6z_x1 off cap = 0 := by show non6z_x0 off cap - off + 0 = 0; rw [x0]; omega
        rw [x0, x1]
        exact .chk (by simp) ⟨trivial, rfl, _, rfl, rfl⟩
      · exact ⟨_, _, ⟨b, 0, rfl, rfl⟩, ⟨_, _, rfl, ⟨_, _, trivial, ⟨_, _, rfl, rfl, rfl⟩, rfl⟩, rfl⟩, rfl⟩
    · rcases h2 with rfl | ⟨nA, A, b', oA, cA, cs', t', fr', rfl, hc', hb', hA, hsz', hcs', hyA⟩
      · refine (law_two (v := .one (.c (.bool true))) (x := .win off .u8 L) (y := .win off .u8 L) Try.func6 body6_eq (sl6_ok (.sl 0 off n cap) sc (.one (.c .sl0)) g) rfl rfl rfl (body6n (by omega) hc hn hy hsc) (c0 := 0) (c1 := 0) hb (hw _ _) hb (hw _ _) (vs := [.slice (some ⟨b, off, none⟩) n cap, .int .u32 sc, .slice none 0 0, .int .i64 g]) ?_).mono fun e w' h => fin h
        exact ⟨_, _, ⟨b, 0, rfl, rfl⟩, ⟨_, _, rfl, ⟨_, _, rfl, ⟨_, _, rfl, rfl, rfl⟩, rfl⟩, rfl⟩, rfl⟩
      · refine (law_two (v := .one (.c (.bool true))) (x := .win off .u8 L) (y := .recs oA ksA A) Try.func6 body6_eq (sl6_ok (.sl 0 off n cap) sc (.one (.c (.sl 1 oA nA cA))) g) rfl rfl rfl (body6 (by omega) hc hn hy hsc hA hyA) (c0 := 0) (c1 := 0) hb (hw _ _) hb' ⟨cs', t', fr', rfl, by rw [hA]; exact hsz', hcs'⟩ (vs := [.slice (some ⟨b, off, none⟩) n cap, .int .u32 sc, .slice (some ⟨b', oA, none⟩) nA cA, .int .i64 g]) ?_).mono fun e w' h => fin h
        exact ⟨_, _, ⟨b, 0, rfl, rfl⟩, ⟨_, _, rfl, ⟨_, _, ⟨b', 0, rfl, rfl⟩, ⟨_, _, rfl, rfl, rfl⟩, rfl⟩, rfl⟩, rfl⟩
end
#print axioms law6
end Go.Sx
