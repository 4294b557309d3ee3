/-
  Parts of the executor Sx over the model's code (any program), or of this seat's walks: words and proofs that the row's text uses.
-/
import Derived.Test.YtganobhodimjnaaG16
namespace Go.Sx
open Go.Proofs Go.RowKit
set_option maxRecDepth 100000
/-! ### ScanWrites: f5 -/
noncomputable def c5 : Code := gB 5
noncomputable abbrev p0 : Code := gL c5
noncomputable abbrev p1 : Code := gL (gR c5)
noncomputable abbrev p3 : Code := gL (gR (gR c5))
noncomputable abbrev p4 : Code := gL (gR (gR (gR c5)))
noncomputable abbrev p6 : Code := gL (gR (gR (gR (gR c5))))
noncomputable abbrev p7 : Code := gL (gR (gR (gR (gR (gR c5)))))
noncomputable abbrev p8 : Code := gL (gR (gR (gR (gR (gR (gR c5))))))
noncomputable abbrev p9 : Code := gL (gR (gR (gR (gR (gR (gR (gR c5)))))))
noncomputable abbrev p10 : Code := gL (gR (gR (gR (gR (gR (gR (gR (gR c5))))))))
noncomputable abbrev p11 : Code := (gR (gR (gR (gR (gR (gR (gR (gR (gR c5)))))))))
def pL (P : Nat → Int) : List Int := [P 0, P 1, P 2, P 3, P 4, P 5, P 6, P 7, P 8, P 9, P 10, P 11, P 12, P 13, P 14, P 15, P 16, P 17, P 18, P 19, P 20, P 21, P 22, P 23, P 24, P 25, P 26, P 27, P 28, P 29, P 30, P 31, P 32, P 33, P 34, P 35, P 36, P 37, P 38, P 39, P 40, P 41, P 42, P 43, P 44, P 45, P 46, P 47, P 48, P 49, P 50, P 51, P 52, P 53]
def actC (P : Nat → Int) (g k : Int) : List Cell := .int .i64 g :: .int .i64 k :: [.int .u8 (P 0), .int .u8 (P 1), .int .u8 (P 2), .int .u8 (P 3), .int .u8 (P 4), .int .u8 (P 5), .int .u8 (P 6), .int .u8 (P 7), .int .u8 (P 8), .int .u8 (P 9), .int .u8 (P 10), .int .u8 (P 11), .int .u8 (P 12), .int .u8 (P 13), .int .u8 (P 14), .int .u8 (P 15), .int .u8 (P 16), .int .u8 (P 17), .int .u8 (P 18), .int .u8 (P 19), .int .u8 (P 20), .int .u8 (P 21), .int .u8 (P 22), .int .u8 (P 23), .int .u8 (P 24), .int .u8 (P 25), .int .u8 (P 26), .int .u8 (P 27), .int .u8 (P 28), .int .u8 (P 29), .int .u8 (P 30), .int .u8 (P 31), .int .u8 (P 32), .int .u8 (P 33), .int .u8 (P 34), .int .u8 (P 35), .int .u8 (P 36), .int .u8 (P 37), .int .u8 (P 38), .int .u8 (P 39), .int .u8 (P 40), .int .u8 (P 41), .int .u8 (P 42), .int .u8 (P 43), .int .u8 (P 44), .int .u8 (P 45), .int .u8 (P 46), .int .u8 (P 47), .int .u8 (P 48), .int .u8 (P 49), .int .u8 (P 50), .int .u8 (P 51), .int .u8 (P 52), .int .u8 (P 53)]
noncomputable def args5 (n off cap : Nat) (sc g k i : Int) (P : Nat → Int) : List RV := [.one (.c (.sl 0 off n cap)), .one (.c (.int .u32 sc)), .one (.agg (actC P g k)), .one (.c (.int .i64 i))]
noncomputable def sl5 (n off cap : Nat) (sc g k i : Int) (P : Nat → Int) : T RV := match setArgs 122 (args5 n off cap sc g k i P) 0 .nil some with | some t => t | none => .nil
theorem sl5_ok (n off cap : Nat) (sc g k i : Int) (P : Nat → Int) : setArgs 122 (args5 n off cap sc g k i P) 0 .nil some = some (sl5 n off cap sc g k i P) := by kernel_rfl
noncomputable abbrev boxA (g k : Int) (P : Nat → Int) : Blk := .row 57 false none (.cells (actC P g k))
abbrev imgB (a b c : Int) (n : Nat) (sc out : Int) : Blk := .row 89 false none (.cells [.int .i64 a, .int .i64 b, .int .i64 c, .slu 6 64 0 n, .int .u32 sc, .map 7, .int .i64 out])
abbrev secB (L : List Int) (N : Nat) : Blk := .row 49 false (some 64) (.ints .u8 L N)
abbrev wasB (w : List Int) : Blk := .row 49 false none (.ints .u8 w 64)


theorem Tr.pathR {P : Program} {Sg : FuncId → Option SumA} (F : Fit P (fun f => (Sg f).map toSum)) {fuel n : Nat} {c : Code} {s : S} {o : List (Nat × Bool)} {res : List ResultVar} {x : X} {q : Option (List AV)} {ps : List Prop}
    (h : execA P Sg fuel n c s ⟨0, o, []⟩ (fun x s α => some (x, resOf P n s res, α.ob)) = some (x, q, ps)) (hp : All ps) {Q : X → S → Prop} (hq : ∀ s', resOf P n s' res = q → Q x s') : Tr P n c s Q := by
  intro ht ρ a w R
  obtain ⟨x1, s1, α', h1, h2⟩ := execA_ok Sg fuel _ _ _ _ _ _ h
  simp only [Option.some.injEq, Prod.mk.injEq] at h1
  obtain ⟨rfl, e1, rfl⟩ := h1
  have h3 := (h2 hp).2 (X × S) (fun x s => some (x, s))
  obtain ⟨x2, s2, L, m, h4, ab, hw⟩ := exec_sound F.ng F.mixed F.sums fuel _ _ _ _ _ ht h3
  simp only [Option.some.injEq, Prod.mk.injEq] at h4
  obtain ⟨rfl, rfl⟩ := h4
  exact (hw ρ a w R).y.mono fun e a w hh => ⟨_, _, L, hq _ e1, ab.n, hh⟩
noncomputable abbrev go5 (keep : List Nat) (c : Code) (s : S) (o : List (Nat × Bool)) : Option (X × S × List Prop) := execA Try.prog sgF 300 122 c s ⟨0, o, []⟩ fun x s α => some (x, fgt keep 122 s, α.ob)
noncomputable abbrev re5 (c : Code) (s : S) (o : List (Nat × Bool)) : Option (X × Option (List AV) × List Prop) := execA Try.prog sgF 300 122 c s ⟨0, o, []⟩ fun x s α => some (x, resOf Try.prog 122 s Try.f5.results.toList, α.ob)

/-! the few sectors, raw -/
section
variable (n off cap : Nat) (sc g k i : Int) (P : Nat → Int) (L : List Int)
abbrev Mn : Int := if (140 : Int) < (n : Int) then (140 : Int) else (n : Int)
abbrev Qn : Nat := (Mn n).toNat - 0
abbrev offN : Nat := if cap = 0 then off else off + 0
abbrev A0 : List Int := List.take (lenBy none (Qn n) * 64) (List.drop (offN off cap - off) L)
abbrev B0 : Nat := lenBy none (Qn n)
abbrev L1 : List Int := List.take 0 (List.drop 0 (repl z64 0)) ++ A0 n off cap L
abbrev N1 : Nat := 0 + B0 n
abbrev C1 : Nat := 0 + lenBy none (Qn n) * 64
abbrev A2 : List Int := List.take (lenBy none (N1 n) * 64) (List.drop 0 (L1 n off cap L))
abbrev B2 : Nat := lenBy none (N1 n)
abbrev L2 : List Int := List.take 0 (List.drop 0 (repl z64 0)) ++ A2 n off cap L
abbrev N2 : Nat := 0 + B2 n
abbrev C2 : Nat := 0 + lenBy none (N1 n) * 64
noncomputable def sS : S := ⟨sl5 n off cap sc g k i P, ofL [(0, .win off .u8 L)], 1, []⟩
noncomputable def sT : S := fgt [0, 1, 3, 6] 122 ⟨ofL [(0, .one (.c (.sl 0 off n cap))), (1, .one (.c (.int .u32 sc))), (3, .one (.c (.int .i64 i))), (6, .one (.c (.ptr 1 0)))], ofL [(0, .win off .u8 L), (1, boxA g k P)], 2, []⟩
theorem r0 : go5 [0, 1, 3, 6] p0 (sS n off cap sc g k i P L) [] = some (.normal, sT n off cap sc g k i P L, []) := by kernel_rfl
theorem r1 : go5 [0, 1, 3, 6] p1 (sT n off cap sc g k i P L) [] = some (.normal, sT n off cap sc g k i P L, []) := by kernel_rfl
abbrev cutOk : List Prop := [decide ((off ≤ offN off cap) ∧ offN off cap - off + lenBy none (Qn n) * 64 ≤ L.length) = true, decide (0 ≤ Mn n ∧ Mn n ≤ (cap : Int)) = true]
noncomputable def sNo (nx : Nat) (e : Int) (hp : T Blk) : S := fgt [9, 10] 122 ⟨ofL [(9, .one (.c .ptr0)), (10, .one (.c (.int .i64 e)))], hp, nx, []⟩
noncomputable def hp3a : T Blk := ofL [(0, .win off .u8 L), (1, boxA g k P), (2, .row 49 false none (.ints .u8 [] 0)), (3, .row 23 false none (.cells [.int .i64 0, .int .i64 0, .int .i64 0]))]
theorem r3a : go5 [9, 10] p3 (sT n off cap sc g k i P L) [(0, true), (1, true), (2, true)] = some (.normal, sNo 4 22 (hp3a off g k P L), [(B0 n).beq 0 = true] ++ cutOk n off cap L) := by kernel_rfl
noncomputable abbrev shp : Blk := .row 23 false none (.cells [.int .i64 (fndG (L1 n off cap L) (N1 n) 4), .int .i64 (fndG (L1 n off cap L) (N1 n) 6), .int .i64 (fndG (L1 n off cap L) (N1 n) 8)])
noncomputable def hp3b : T Blk := ofL [(0, .win off .u8 L), (1, boxA g k P), (2, .row 49 false none (.ints .u8 [] 0)), (3, secB (L1 n off cap L) (C1 n)), (4, shp n off cap L)]
noncomputable abbrev fewOk : List Prop := [(L1 n off cap L).length = C1 n, C1 n = 64 * N1 n, decide (0 < N1 n ∧ fits Try.prog.types[49]! (N1 n) = true) = true, (B0 n).beq 0 = false] ++ cutOk n off cap L
theorem r3b : go5 [9, 10] p3 (sT n off cap sc g k i P L) [(0, true), (1, true), (2, false), (3, true), (5, true)] = some (.normal, sNo 5 (fndE (L1 n off cap L) (N1 n)) (hp3b n off cap g k P L), [(fndE (L1 n off cap L) (N1 n) != 0) = true] ++ fewOk n off cap L) := by kernel_rfl
end
/-! the image at hand -/
section
variable (x0 x2 x3 x4 x5 x7 x10 x11 : Blk) (a b c : Int) (L w0 q0 : List Int) (N n : Nat) (sc out g k i : Int) (P : Nat → Int)
noncomputable abbrev hpI (l : List (Nat × Blk)) : T Blk := ofL ([(0, x0), (1, boxA g k P), (2, x2), (3, x3), (4, x4), (5, x5), (6, secB L N), (7, x7), (8, imgB a b c n sc out)] ++ l)
abbrev sl9 : List (Nat × RV) := [(3, .one (.c (.int .i64 i))), (6, .one (.c (.ptr 1 0))), (9, .one (.c (.ptr 8 0)))]
noncomputable def s3 (e : Int) : S := fgt [3, 6, 9, 10] 122 ⟨ofL (sl9 i ++ [(10, .one (.c (.int .i64 e)))]), hpI x0 x2 x3 x4 x5 x7 a b c L N n sc out g k P [], 9, []⟩
noncomputable def s4 : S := fgt [3, 6, 9] 122 ⟨ofL (sl9 i), hpI x0 x2 x3 x4 x5 x7 a b c L N n sc out g k P [], 9, []⟩
theorem r4n (nx : Nat) (e : Int) (hp : T Blk) : re5 p4 (sNo nx e hp) [(0, true)] = some (.ret, some [.c (.bool true)], [(e != 0) = true]) := by kernel_rfl
theorem r4y (e : Int) : go5 [3, 6, 9] p4 (s3 x0 x2 x3 x4 x5 x7 a b c L N n sc out g k i P e) [(0, false)] = some (.normal, s4 x0 x2 x3 x4 x5 x7 a b c L N n sc out g k i P, [(e != 0) = false]) := by kernel_rfl
noncomputable def s6 : S := fgt [3, 6, 9, 11] 122 ⟨ofL (sl9 i ++ [(11, .one (.c (.ptr 9 0)))]), hpI x0 x2 x3 x4 x5 x7 a b c L N n sc out g k P [(9, wasB w0)], 10, []⟩
theorem r6 : go5 [3, 6, 9, 11] p6 (s4 x0 x2 x3 x4 x5 x7 a b c L N n sc out g k i P) [] = some (.normal, s6 x0 x2 x3 x4 x5 x7 a b c L (over z64 0 (blkS L n i)) N n sc out g k i P, [L.length = N, N = 64 * n]) := by kernel_rfl
noncomputable def s7 : S := fgt [3, 6, 9, 11, 12, 13] 122 ⟨ofL (sl9 i ++ [(11, .one (.c (.ptr 9 0))), (12, .one (.c (.ptr 11 0))), (13, .one (.c (.int .i64 (pl a b c g).2.2.2)))]), hpI x0 x2 x3 x4 x5 x7 a b c L N n sc out g k P [(9, wasB w0), (10, .row 23 false none (.cells [.int .i64 a, .int .i64 b, .int .i64 c])), (11, .row 42 false none (.cells [.int .i64 (pl a b c g).1, .int .i64 (pl a b c g).2.1, .int .i64 (pl a b c g).2.2.1]))], 12, []⟩
theorem r7 : go5 [3, 6, 9, 11, 12, 13] p7 (s6 x0 x2 x3 x4 x5 x7 a b c L w0 N n sc out g k i P) [] = some (.normal, s7 x0 x2 x3 x4 x5 x7 a b c L w0 N n sc out g k i P, []) := by kernel_rfl
noncomputable def s8 (v : Bool) : S := fgt [3, 6, 9, 11, 14] 122 ⟨ofL (sl9 i ++ [(11, .one (.c (.ptr 9 0))), (14, .one (.c (.bool v)))]), hpI x0 x2 x3 x4 x5 x7 a b c L N n sc out g k P [(9, wasB w0), (10, x10), (11, x11)], 12, []⟩
noncomputable def s8' (v : Bool) : S := s8 x0 x2 x3 x4 x5 x7 (.row 23 false none (.cells [.int .i64 a, .int .i64 b, .int .i64 c])) (.row 42 false none (.cells [.int .i64 (pl a b c g).1, .int .i64 (pl a b c g).2.1, .int .i64 (pl a b c g).2.2.1])) a b c L w0 N n sc out g k i P v

theorem r8a : go5 [3, 6, 9, 11, 14] p8 (s7 x0 x2 x3 x4 x5 x7 a b c L w0 N n sc out g k i P) (tT [0, 1, 2, 3, 4, 5, 6, 7, 8, 9, 10, 15, 16, 17, 18]) = some (.normal, s8' x0 x2 x3 x4 x5 x7 a b c L w0 N n sc out g k i P (decide (k < 7)), rep 4 (decide (k > 0) = true) ++ ([(((pl a b c g).2.2.2 == 0) = true), (decide (g < 2) = true), (((pl a b c g).2.2.2 == 0) = true)] ++ (rep 4 (decide (g < 2) = true) ++ rep 4 (((pl a b c g).2.2.2 == 0) = true)))) := by kernel_rfl
theorem r8b : go5 [3, 6, 9, 11, 14] p8 (s7 x0 x2 x3 x4 x5 x7 a b c L w0 N n sc out g k i P) (tT [0, 1, 2, 3, 4, 5, 6, 7, 8, 9, 10] ++ fF [15, 16, 17, 18]) = some (.normal, s8' x0 x2 x3 x4 x5 x7 a b c L w0 N n sc out g k i P (false), rep 4 (decide (k > 0) = false) ++ ([(((pl a b c g).2.2.2 == 0) = true), (decide (g < 2) = true), (((pl a b c g).2.2.2 == 0) = true)] ++ (rep 4 (decide (g < 2) = true) ++ rep 4 (((pl a b c g).2.2.2 == 0) = true)))) := by kernel_rfl
theorem r8c : go5 [3, 6, 9, 11, 14] p8 (s7 x0 x2 x3 x4 x5 x7 a b c L w0 N n sc out g k i P) (tT [0, 1, 2, 3] ++ (fF [4, 5, 6, 7] ++ ((8, true) :: (9, false) :: tT [10, 11, 12, 13, 14, 15, 16, 17, 18]))) = some (.normal, s8' x0 x2 x3 x4 x5 x7 a b c L w0 N n sc out g k i P (decide (k < 7)), rep 4 (decide (k > 0) = true) ++ (rep 4 (inS a sc (pl a b c g).2.1 = true) ++ ([(((pl a b c g).2.2.2 == 0) = true), (decide (g < 2) = false), (((pl a b c g).2.2.2 == 0) = true)] ++ (rep 4 (decide (g < 2) = false) ++ rep 4 (((pl a b c g).2.2.2 == 0) = true))))) := by kernel_rfl
theorem r8d : go5 [3, 6, 9, 11, 14] p8 (s7 x0 x2 x3 x4 x5 x7 a b c L w0 N n sc out g k i P) (tT [0, 1, 2, 3] ++ (fF [4, 5, 6, 7] ++ ((8, true) :: (9, false) :: (tT [10, 11, 12, 13, 14] ++ fF [15, 16, 17, 18])))) = some (.normal, s8' x0 x2 x3 x4 x5 x7 a b c L w0 N n sc out g k i P (false), rep 4 (decide (k > 0) = false) ++ (rep 4 (inS a sc (pl a b c g).2.1 = true) ++ ([(((pl a b c g).2.2.2 == 0) = true), (decide (g < 2) = false), (((pl a b c g).2.2.2 == 0) = true)] ++ (rep 4 (decide (g < 2) = false) ++ rep 4 (((pl a b c g).2.2.2 == 0) = true))))) := by kernel_rfl
theorem r8e : go5 [3, 6, 9, 11, 14] p8 (s7 x0 x2 x3 x4 x5 x7 a b c L w0 N n sc out g k i P) (tT [0, 1, 2, 3] ++ (fF [4, 5, 6, 7] ++ ((8, true) :: (9, false) :: (10, true) :: fF [11, 12, 13, 14]))) = some (.normal, s8' x0 x2 x3 x4 x5 x7 a b c L w0 N n sc out g k i P (false), rep 4 (inS a sc (pl a b c g).2.1 = false) ++ ([(((pl a b c g).2.2.2 == 0) = true), (decide (g < 2) = false), (((pl a b c g).2.2.2 == 0) = true)] ++ (rep 4 (decide (g < 2) = false) ++ rep 4 (((pl a b c g).2.2.2 == 0) = true)))) := by kernel_rfl
theorem r8f : go5 [3, 6, 9, 11, 14] p8 (s7 x0 x2 x3 x4 x5 x7 a b c L w0 N n sc out g k i P) (fF [0, 1, 2, 3, 4, 5]) = some (.normal, s8' x0 x2 x3 x4 x5 x7 a b c L w0 N n sc out g k i P (false), rep 6 (((pl a b c g).2.2.2 == 0) = false)) := by kernel_rfl

noncomputable abbrev WR (P : Nat → Int) : Bool × List Int × List (Int × Int) × Int := wrEnd a b c n sc out L [] g k (pL P)

noncomputable def s9 (v y : Bool) : S := fgt [3, 6, 9, 11, 14, 15] 122 ⟨ofL (sl9 i ++ [(11, .one (.c (.ptr 9 0))), (14, .one (.c (.bool v))), (15, .one (.c (.bool y)))]), hpI x0 x2 x3 x4 x5 x7 a b c L N n sc out g k P [(9, wasB w0), (10, x10), (11, x11)], 12, []⟩
theorem r9 (v : Bool) : go5 [3, 6, 9, 11, 14, 15] p9 (s8 x0 x2 x3 x4 x5 (.map []) x10 x11 a b c L w0 N n sc 0 g k i P v) [] = some (.normal, s9 x0 x2 x3 x4 x5 (.mapI none (wrEnd a b c n sc 0 L [] g k (pL P)).2.2.1) x10 x11 a b c (wrEnd a b c n sc 0 L [] g k (pL P)).2.1 w0 N n sc (wrEnd a b c n sc 0 L [] g k (pL P)).2.2.2 g k i P v (wrEnd a b c n sc 0 L [] g k (pL P)).1, [L.length = N, N = 64 * n, (pL P).length = 54]) := by kernel_rfl
noncomputable def s10 (v y z : Bool) : S := fgt [3, 6, 9, 11, 14, 15, 16, 17] 122 ⟨ofL (sl9 i ++ [(11, .one (.c (.ptr 9 0))), (14, .one (.c (.bool v))), (15, .one (.c (.bool y))), (16, .one (.c (.ptr 12 0))), (17, .one (.c (.bool z)))]), hpI x0 x2 x3 x4 x5 x7 a b c L N n sc out g k P [(9, wasB w0), (10, x10), (11, x11), (12, .row 55 false none (.ints .u8 q0 54))], 13, []⟩
theorem r10 (v y : Bool) : go5 [3, 6, 9, 11, 14, 15, 16, 17] p10 (s9 x0 x2 x3 x4 x5 x7 x10 x11 a b c L w0 N n sc out g k i P v y) [] = some (.normal, s10 x0 x2 x3 x4 x5 x7 x10 x11 a b c L w0 (over z54 0 (ldP L n g k)) N n sc out g k i P v y (ldOk L n g k), [L.length = N, N = 64 * n]) := by kernel_rfl
abbrev eqL : Bool := List.take 54 (List.drop 0 q0) == pL P
abbrev eqB : Bool := blkS L n i == List.take 64 (List.drop 0 w0)

theorem r11a : re5 p11 (s10 x0 x2 x3 x4 x5 x7 x10 x11 a b c L w0 q0 N n sc out g k i P true true true) (tT [14, 15, 16, 26, 28, 29, 30, 31, 32, 33, 34, 35, 36, 37, 38, 39, 40, 41]) = some (.ret, some [.c (.bool (true))], [(eqL q0 P = true), ((i == g) = true), (eqL q0 P = true)] ++ (rep 5 ((i == g) = true) ++ rep 10 (eqL q0 P = true))) := by kernel_rfl
theorem r11b : re5 p11 (s10 x0 x2 x3 x4 x5 x7 x10 x11 a b c L w0 q0 N n sc out g k i P true true true) (tT [14, 15, 16, 26, 28, 29, 30, 31, 32, 33] ++ (fF [34, 35, 36, 37] ++ [(39, false), (40, true), (41, false), (42, true)])) = some (.ret, some [.c (.bool (eqB L w0 n i))], [(eqL q0 P = true), ((i == g) = false), (eqL q0 P = true), ((i == g) = false), ((i == g) = false), (L.length = N), (N = 64 * n)] ++ (rep 3 ((i == g) = false) ++ rep 10 (eqL q0 P = true))) := by kernel_rfl
theorem r11c : re5 p11 (s10 x0 x2 x3 x4 x5 x7 x10 x11 a b c L w0 q0 N n sc out g k i P false true true) (tT [21, 22, 23, 24, 25, 26, 27, 28, 29, 30, 31, 32, 33]) = some (.ret, some [.c (.bool (true))], [(eqL q0 P = true), ((i == g) = true), (eqL q0 P = true)] ++ (rep 5 ((i == g) = true) ++ rep 5 (eqL q0 P = true))) := by kernel_rfl
theorem r11d : re5 p11 (s10 x0 x2 x3 x4 x5 x7 x10 x11 a b c L w0 q0 N n sc out g k i P false true true) (tT [21, 22, 23, 24, 25] ++ (fF [26, 27, 28, 29] ++ [(31, false), (32, true), (33, false), (34, true)])) = some (.ret, some [.c (.bool (eqB L w0 n i))], [(eqL q0 P = true), ((i == g) = false), (eqL q0 P = true), ((i == g) = false), ((i == g) = false), (L.length = N), (N = 64 * n)] ++ (rep 3 ((i == g) = false) ++ rep 5 (eqL q0 P = true))) := by kernel_rfl
theorem r11e (z : Bool) : re5 p11 (s10 x0 x2 x3 x4 x5 x7 x10 x11 a b c L w0 q0 N n sc out g k i P false false z) (tT [20, 21, 22, 23, 24, 26]) = some (.ret, some [.c (.bool (true))], rep 6 ((i == g) = true)) := by kernel_rfl
theorem r11f (z : Bool) : re5 p11 (s10 x0 x2 x3 x4 x5 x7 x10 x11 a b c L w0 q0 N n sc out g k i P false false z) (fF [20, 21, 22, 23] ++ [(25, false), (27, false)]) = some (.ret, some [.c (.bool (eqB L w0 n i))], [((i == g) = false), ((i == g) = false), ((i == g) = false), (L.length = N), (N = 64 * n)] ++ rep 3 ((i == g) = false)) := by kernel_rfl
end
section
variable (n off cap : Nat) (sc g k i : Int) (P : Nat → Int) (L : List Int)
theorem r3c : go5 [3, 6, 9, 10] p3 (sT n off cap sc g k i P L) [(0, true), (1, true), (2, false), (3, true), (5, false), (7, true), (8, true), (9, false), (10, true)] = some (.normal, s3 (.win off .u8 L) (.row 49 false none (.ints .u8 [] 0)) (secB (L1 n off cap L) (C1 n)) (shp n off cap L) (.row 49 false none (.ints .u8 [] 0)) (.map []) (fndG (L1 n off cap L) (N1 n) 4) (fndG (L1 n off cap L) (N1 n) 6) (fndG (L1 n off cap L) (N1 n) 8) (L2 n off cap L) (C2 n) (N2 n) sc 0 g k i P (fndE (L1 n off cap L) (N1 n)),
  [decide (0 < N2 n ∧ fits Try.prog.types[49]! (N2 n) = true) = true, (B2 n).beq 0 = false, decide (0 + lenBy none (N1 n) * 64 ≤ C1 n) = true, decide (N1 n ≠ 0) = true, (fndE (L1 n off cap L) (N1 n) != 0) = false] ++ fewOk n off cap L) := by kernel_rfl
end
end Go.Sx
