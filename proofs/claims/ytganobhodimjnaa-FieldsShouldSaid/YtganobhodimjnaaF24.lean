/-
  Parts of the executor Sx over the model's code (any program), or of this seat's walks: words and proofs that the row's text uses.
-/
import Derived.Test.YtganobhodimjnaaF20
import Derived.Test.YtganobhodimjnaaSxY
namespace Go.Sx
open Go.Proofs Go.RowKit
set_option maxRecDepth 100000
noncomputable def c10 : Code := body 10
noncomputable def rest10 : Code := cR (cR (cR c10))
noncomputable def thn10 : Code := cL (cR (cL rest10))
noncomputable def l10 : Code := cL (cL (cR (cL (cR thn10))))
noncomputable def xhp (a b c k l s d0 d1 d2 d3 sg db : Int) : T Blk := ofL [(0, .row 23 false none (.cells [.int .i64 a, .int .i64 b, .int .i64 c])), (1, .row 28 false none (.cells (inoL k l s d0 d1 d2 d3 sg db))),
  (2, .row 28 false none (.cells (inoL 0 0 0 0 0 0 0 0 0)))]
noncomputable def yhp (a b c k l s d0 d1 d2 d3 sg db y1 y2 y3 y4 y5 y6 y7 y8 y9 : Int) (r : List Cell) : T Blk := ofL [(0, .row 23 false none (.cells [.int .i64 a, .int .i64 b, .int .i64 c])), (1, .row 28 false none (.cells (inoL k l s d0 d1 d2 d3 sg db))),
  (2, .row 28 false none (.cells r)), (3, .row 28 false none (.cells (inoL y1 y2 y3 y4 y5 y6 y7 y8 y9)))]
noncomputable def ysl (n : Int) (r : List (Nat × RV)) : T RV := ofL ([(1, .one (.c (.int .i64 n))), (3, .one (.c (.ptr 0 0))), (6, .one (.c (.ptr 2 0)))] ++ r)
abbrev Z9 : List Cell := inoL 0 0 0 0 0 0 0 0 0
abbrev KX : List Nat := [1, 3, 5, 6]
abbrev KY : List Nat := [1, 3, 6, 7]
abbrev KM : List Nat := [1, 3, 6, 7, 8]
abbrev KL : List Nat := [1, 3, 6, 7, 8, 9]
noncomputable def sX (a b c n k l s d0 d1 d2 d3 sg db : Int) : S := fgt KX 73 ⟨ysl n [(5, .one (.c (.ptr 1 0)))], xhp a b c k l s d0 d1 d2 d3 sg db, 3, []⟩
noncomputable def sY (a b c n k l s d0 d1 d2 d3 sg db y1 y2 y3 y4 y5 y6 y7 y8 y9 : Int) : S := fgt KY 73 ⟨ysl n [(7, .one (.c (.ptr 3 0)))], yhp a b c k l s d0 d1 d2 d3 sg db y1 y2 y3 y4 y5 y6 y7 y8 y9 Z9, 4, []⟩
noncomputable def sM (m a b c n k l s d0 d1 d2 d3 sg db y1 y2 y3 y4 y5 y6 y7 y8 y9 : Int) : S := fgt KM 73 ⟨ysl n [(7, .one (.c (.ptr 3 0))), (8, .one (.c (.int .i64 m)))], yhp a b c k l s d0 d1 d2 d3 sg db y1 y2 y3 y4 y5 y6 y7 y8 y9 Z9, 4, []⟩
noncomputable def sL (j : Nat) (m a b c n k l s d0 d1 d2 d3 sg db y1 y2 y3 y4 y5 y6 y7 y8 y9 : Int) : S := fgt KL 73 ⟨ysl n [(7, .one (.c (.ptr 3 0))), (8, .one (.c (.int .i64 m))), (9, .one (.c (.int .i64 j)))], yhp a b c k l s d0 d1 d2 d3 sg db y1 y2 y3 y4 y5 y6 y7 y8 y9 Z9, 4, []⟩
noncomputable def sE (a b c k l s d0 d1 d2 d3 sg db y1 y2 y3 y4 y5 y6 y7 y8 y9 : Int) (r : List Cell) : S := fgt [6] 73 ⟨ofL [(6, .one (.c (.ptr 2 0)))], yhp a b c k l s d0 d1 d2 d3 sg db y1 y2 y3 y4 y5 y6 y7 y8 y9 r, 4, []⟩
theorem wrap_u16 {s : Int} (h : U16 s) : IntKind.i64.wrap s = s := IntWalk.i64_in _ (by have := h.1; have := h.2; omega)
theorem nlt {m t : Int} (h : decide (t ≥ m) = true) : decide (m > t) = false := by simp at h ⊢; omega
theorem nlt' {m t : Int} (h : decide (t ≥ m) = false) : decide (m > t) = true := by simp at h ⊢; omega
theorem r0a (m a b c n k l s d0 d1 d2 d3 sg db y1 y2 y3 y4 y5 y6 y7 y8 y9 : Int) : execA Try.prog sgF 300 73 l10 (sL 0 m a b c n k l s d0 d1 d2 d3 sg db y1 y2 y3 y4 y5 y6 y7 y8 y9) ⟨0, [(1, false), (2, false), (3, false), (4, false), (6, false), (7, false), (8, false), (9, false), (10, false), (11, true)], []⟩ (fun x s α => some (x, fgt KL 73 s, α.ob)) = some (.normal, sL 1 m a b c n k l s d0 d1 d2 d3 sg db y1 y2 y3 0 y5 y6 y7 y8 y9, [(if false = true then true else !rawB a b c (IntKind.i64.wrap y4)) = true, decide (0 ≥ m) = false, decide (0 ≥ m) = false, decide (0 ≥ m) = false, decide (0 ≥ m) = false, decide (0 ≥ m) = false, decide (0 ≥ m) = false, decide (0 ≥ m) = false, decide (0 ≥ m) = false, decide (0 ≥ m) = false]) := by kernel_rfl
theorem r0b (m a b c n k l s d0 d1 d2 d3 sg db y1 y2 y3 y4 y5 y6 y7 y8 y9 : Int) : execA Try.prog sgF 300 73 l10 (sL 0 m a b c n k l s d0 d1 d2 d3 sg db y1 y2 y3 y4 y5 y6 y7 y8 y9) ⟨0, [(1, false), (2, false), (3, false), (4, false), (6, false), (7, false), (8, false), (9, false), (10, false), (11, false)], []⟩ (fun x s α => some (x, fgt KL 73 s, α.ob)) = some (.normal, sL 1 m a b c n k l s d0 d1 d2 d3 sg db y1 y2 y3 y4 y5 y6 y7 y8 y9, [(if false = true then true else !rawB a b c (IntKind.i64.wrap y4)) = false, decide (0 ≥ m) = false, decide (0 ≥ m) = false, decide (0 ≥ m) = false, decide (0 ≥ m) = false, decide (0 ≥ m) = false, decide (0 ≥ m) = false, decide (0 ≥ m) = false, decide (0 ≥ m) = false, decide (0 ≥ m) = false]) := by kernel_rfl
theorem r0c (m a b c n k l s d0 d1 d2 d3 sg db y1 y2 y3 y4 y5 y6 y7 y8 y9 : Int) : execA Try.prog sgF 300 73 l10 (sL 0 m a b c n k l s d0 d1 d2 d3 sg db y1 y2 y3 y4 y5 y6 y7 y8 y9) ⟨0, [(1, true), (2, true), (3, true), (4, true), (5, true), (6, true), (7, true), (8, true), (9, true)], []⟩ (fun x s α => some (x, fgt KL 73 s, α.ob)) = some (.normal, sL 1 m a b c n k l s d0 d1 d2 d3 sg db y1 y2 y3 0 y5 y6 y7 y8 y9, [decide (0 ≥ m) = true, decide (0 ≥ m) = true, decide (0 ≥ m) = true, decide (0 ≥ m) = true, decide (0 ≥ m) = true, decide (0 ≥ m) = true, decide (0 ≥ m) = true, decide (0 ≥ m) = true, decide (0 ≥ m) = true]) := by kernel_rfl
theorem r0 (m a b c n k l s d0 d1 d2 d3 sg db y1 y2 y3 y4 y5 y6 y7 y8 y9 : Int) (h : U16 y4) {Q : X → S → Prop} (hq : Q .normal (sL 1 m a b c n k l s d0 d1 d2 d3 sg db y1 y2 y3 (kp a b c (decide (m > 0)) y4) y5 y6 y7 y8 y9)) : Tr Try.prog 73 l10 (sL 0 m a b c n k l s d0 d1 d2 d3 sg db y1 y2 y3 y4 y5 y6 y7 y8 y9) Q := by
  cases h2 : decide (0 ≥ m) with
  | true => rw [show decide (m > 0) = false by simp at h2 ⊢; omega, kp_f] at hq; exact Tr.path fitF (r0c m a b c n k l s d0 d1 d2 d3 sg db y1 y2 y3 y4 y5 y6 y7 y8 y9) (by simp only [All, h2]; simp) hq
  | false =>
    rw [show decide (m > 0) = true by simp at h2 ⊢; omega] at hq
    cases h3 : rawB a b c y4 with
    | false => rw [kp_0 h3] at hq; exact Tr.path fitF (r0a m a b c n k l s d0 d1 d2 d3 sg db y1 y2 y3 y4 y5 y6 y7 y8 y9) (by simp only [All, h2, wrap_u16 h, h3]; simp) hq
    | true => rw [kp_1 h3] at hq; exact Tr.path fitF (r0b m a b c n k l s d0 d1 d2 d3 sg db y1 y2 y3 y4 y5 y6 y7 y8 y9) (by simp only [All, h2, wrap_u16 h, h3]; simp) hq
theorem r1a (m a b c n k l s d0 d1 d2 d3 sg db y1 y2 y3 y4 y5 y6 y7 y8 y9 : Int) : execA Try.prog sgF 300 73 l10 (sL 1 m a b c n k l s d0 d1 d2 d3 sg db y1 y2 y3 y4 y5 y6 y7 y8 y9) ⟨0, [(1, false), (2, false), (3, false), (4, false), (6, false), (7, false), (8, false), (9, false), (10, false), (11, true)], []⟩ (fun x s α => some (x, fgt KL 73 s, α.ob)) = some (.normal, sL 2 m a b c n k l s d0 d1 d2 d3 sg db y1 y2 y3 y4 0 y6 y7 y8 y9, [(if false = true then true else !rawB a b c (IntKind.i64.wrap y5)) = true, decide (1 ≥ m) = false, decide (1 ≥ m) = false, decide (1 ≥ m) = false, decide (1 ≥ m) = false, decide (1 ≥ m) = false, decide (1 ≥ m) = false, decide (1 ≥ m) = false, decide (1 ≥ m) = false, decide (1 ≥ m) = false]) := by kernel_rfl
theorem r1b (m a b c n k l s d0 d1 d2 d3 sg db y1 y2 y3 y4 y5 y6 y7 y8 y9 : Int) : execA Try.prog sgF 300 73 l10 (sL 1 m a b c n k l s d0 d1 d2 d3 sg db y1 y2 y3 y4 y5 y6 y7 y8 y9) ⟨0, [(1, false), (2, false), (3, false), (4, false), (6, false), (7, false), (8, false), (9, false), (10, false), (11, false)], []⟩ (fun x s α => some (x, fgt KL 73 s, α.ob)) = some (.normal, sL 2 m a b c n k l s d0 d1 d2 d3 sg db y1 y2 y3 y4 y5 y6 y7 y8 y9, [(if false = true then true else !rawB a b c (IntKind.i64.wrap y5)) = false, decide (1 ≥ m) = false, decide (1 ≥ m) = false, decide (1 ≥ m) = false, decide (1 ≥ m) = false, decide (1 ≥ m) = false, decide (1 ≥ m) = false, decide (1 ≥ m) = false, decide (1 ≥ m) = false, decide (1 ≥ m) = false]) := by kernel_rfl
theorem r1c (m a b c n k l s d0 d1 d2 d3 sg db y1 y2 y3 y4 y5 y6 y7 y8 y9 : Int) : execA Try.prog sgF 300 73 l10 (sL 1 m a b c n k l s d0 d1 d2 d3 sg db y1 y2 y3 y4 y5 y6 y7 y8 y9) ⟨0, [(1, true), (2, true), (3, true), (4, true), (5, true), (6, true), (7, true), (8, true), (9, true)], []⟩ (fun x s α => some (x, fgt KL 73 s, α.ob)) = some (.normal, sL 2 m a b c n k l s d0 d1 d2 d3 sg db y1 y2 y3 y4 0 y6 y7 y8 y9, [decide (1 ≥ m) = true, decide (1 ≥ m) = true, decide (1 ≥ m) = true, decide (1 ≥ m) = true, decide (1 ≥ m) = true, decide (1 ≥ m) = true, decide (1 ≥ m) = true, decide (1 ≥ m) = true, decide (1 ≥ m) = true]) := by kernel_rfl
theorem r1 (m a b c n k l s d0 d1 d2 d3 sg db y1 y2 y3 y4 y5 y6 y7 y8 y9 : Int) (h : U16 y5) {Q : X → S → Prop} (hq : Q .normal (sL 2 m a b c n k l s d0 d1 d2 d3 sg db y1 y2 y3 y4 (kp a b c (decide (m > 1)) y5) y6 y7 y8 y9)) : Tr Try.prog 73 l10 (sL 1 m a b c n k l s d0 d1 d2 d3 sg db y1 y2 y3 y4 y5 y6 y7 y8 y9) Q := by
  cases h2 : decide (1 ≥ m) with
  | true => rw [show decide (m > 1) = false by simp at h2 ⊢; omega, kp_f] at hq; exact Tr.path fitF (r1c m a b c n k l s d0 d1 d2 d3 sg db y1 y2 y3 y4 y5 y6 y7 y8 y9) (by simp only [All, h2]; simp) hq
  | false =>
    rw [show decide (m > 1) = true by simp at h2 ⊢; omega] at hq
    cases h3 : rawB a b c y5 with
    | false => rw [kp_0 h3] at hq; exact Tr.path fitF (r1a m a b c n k l s d0 d1 d2 d3 sg db y1 y2 y3 y4 y5 y6 y7 y8 y9) (by simp only [All, h2, wrap_u16 h, h3]; simp) hq
    | true => rw [kp_1 h3] at hq; exact Tr.path fitF (r1b m a b c n k l s d0 d1 d2 d3 sg db y1 y2 y3 y4 y5 y6 y7 y8 y9) (by simp only [All, h2, wrap_u16 h, h3]; simp) hq
theorem r2a (m a b c n k l s d0 d1 d2 d3 sg db y1 y2 y3 y4 y5 y6 y7 y8 y9 : Int) : execA Try.prog sgF 300 73 l10 (sL 2 m a b c n k l s d0 d1 d2 d3 sg db y1 y2 y3 y4 y5 y6 y7 y8 y9) ⟨0, [(1, false), (2, false), (3, false), (4, false), (6, false), (7, false), (8, false), (9, false), (10, false), (11, true)], []⟩ (fun x s α => some (x, fgt KL 73 s, α.ob)) = some (.normal, sL 3 m a b c n k l s d0 d1 d2 d3 sg db y1 y2 y3 y4 y5 0 y7 y8 y9, [(if false = true then true else !rawB a b c (IntKind.i64.wrap y6)) = true, decide (2 ≥ m) = false, decide (2 ≥ m) = false, decide (2 ≥ m) = false, decide (2 ≥ m) = false, decide (2 ≥ m) = false, decide (2 ≥ m) = false, decide (2 ≥ m) = false, decide (2 ≥ m) = false, decide (2 ≥ m) = false]) := by kernel_rfl
theorem r2b (m a b c n k l s d0 d1 d2 d3 sg db y1 y2 y3 y4 y5 y6 y7 y8 y9 : Int) : execA Try.prog sgF 300 73 l10 (sL 2 m a b c n k l s d0 d1 d2 d3 sg db y1 y2 y3 y4 y5 y6 y7 y8 y9) ⟨0, [(1, false), (2, false), (3, false), (4, false), (6, false), (7, false), (8, false), (9, false), (10, false), (11, false)], []⟩ (fun x s α => some (x, fgt KL 73 s, α.ob)) = some (.normal, sL 3 m a b c n k l s d0 d1 d2 d3 sg db y1 y2 y3 y4 y5 y6 y7 y8 y9, [(if false = true then true else !rawB a b c (IntKind.i64.wrap y6)) = false, decide (2 ≥ m) = false, decide (2 ≥ m) = false, decide (2 ≥ m) = false, decide (2 ≥ m) = false, decide (2 ≥ m) = false, decide (2 ≥ m) = false, decide (2 ≥ m) = false, decide (2 ≥ m) = false, decide (2 ≥ m) = false]) := by kernel_rfl
theorem r2c (m a b c n k l s d0 d1 d2 d3 sg db y1 y2 y3 y4 y5 y6 y7 y8 y9 : Int) : execA Try.prog sgF 300 73 l10 (sL 2 m a b c n k l s d0 d1 d2 d3 sg db y1 y2 y3 y4 y5 y6 y7 y8 y9) ⟨0, [(1, true), (2, true), (3, true), (4, true), (5, true), (6, true), (7, true), (8, true), (9, true)], []⟩ (fun x s α => some (x, fgt KL 73 s, α.ob)) = some (.normal, sL 3 m a b c n k l s d0 d1 d2 d3 sg db y1 y2 y3 y4 y5 0 y7 y8 y9, [decide (2 ≥ m) = true, decide (2 ≥ m) = true, decide (2 ≥ m) = true, decide (2 ≥ m) = true, decide (2 ≥ m) = true, decide (2 ≥ m) = true, decide (2 ≥ m) = true, decide (2 ≥ m) = true, decide (2 ≥ m) = true]) := by kernel_rfl
theorem r2 (m a b c n k l s d0 d1 d2 d3 sg db y1 y2 y3 y4 y5 y6 y7 y8 y9 : Int) (h : U16 y6) {Q : X → S → Prop} (hq : Q .normal (sL 3 m a b c n k l s d0 d1 d2 d3 sg db y1 y2 y3 y4 y5 (kp a b c (decide (m > 2)) y6) y7 y8 y9)) : Tr Try.prog 73 l10 (sL 2 m a b c n k l s d0 d1 d2 d3 sg db y1 y2 y3 y4 y5 y6 y7 y8 y9) Q := by
  cases h2 : decide (2 ≥ m) with
  | true => rw [show decide (m > 2) = false by simp at h2 ⊢; omega, kp_f] at hq; exact Tr.path fitF (r2c m a b c n k l s d0 d1 d2 d3 sg db y1 y2 y3 y4 y5 y6 y7 y8 y9) (by simp only [All, h2]; simp) hq
  | false =>
    rw [show decide (m > 2) = true by simp at h2 ⊢; omega] at hq
    cases h3 : rawB a b c y6 with
    | false => rw [kp_0 h3] at hq; exact Tr.path fitF (r2a m a b c n k l s d0 d1 d2 d3 sg db y1 y2 y3 y4 y5 y6 y7 y8 y9) (by simp only [All, h2, wrap_u16 h, h3]; simp) hq
    | true => rw [kp_1 h3] at hq; exact Tr.path fitF (r2b m a b c n k l s d0 d1 d2 d3 sg db y1 y2 y3 y4 y5 y6 y7 y8 y9) (by simp only [All, h2, wrap_u16 h, h3]; simp) hq
theorem r3a (m a b c n k l s d0 d1 d2 d3 sg db y1 y2 y3 y4 y5 y6 y7 y8 y9 : Int) : execA Try.prog sgF 300 73 l10 (sL 3 m a b c n k l s d0 d1 d2 d3 sg db y1 y2 y3 y4 y5 y6 y7 y8 y9) ⟨0, [(1, false), (2, false), (3, false), (4, false), (6, false), (7, false), (8, false), (9, false), (10, false), (11, true)], []⟩ (fun x s α => some (x, fgt KL 73 s, α.ob)) = some (.normal, sL 4 m a b c n k l s d0 d1 d2 d3 sg db y1 y2 y3 y4 y5 y6 0 y8 y9, [(if false = true then true else !rawB a b c (IntKind.i64.wrap y7)) = true, decide (3 ≥ m) = false, decide (3 ≥ m) = false, decide (3 ≥ m) = false, decide (3 ≥ m) = false, decide (3 ≥ m) = false, decide (3 ≥ m) = false, decide (3 ≥ m) = false, decide (3 ≥ m) = false, decide (3 ≥ m) = false]) := by kernel_rfl
theorem r3b (m a b c n k l s d0 d1 d2 d3 sg db y1 y2 y3 y4 y5 y6 y7 y8 y9 : Int) : execA Try.prog sgF 300 73 l10 (sL 3 m a b c n k l s d0 d1 d2 d3 sg db y1 y2 y3 y4 y5 y6 y7 y8 y9) ⟨0, [(1, false), (2, false), (3, false), (4, false), (6, false), (7, false), (8, false), (9, false), (10, false), (11, false)], []⟩ (fun x s α => some (x, fgt KL 73 s, α.ob)) = some (.normal, sL 4 m a b c n k l s d0 d1 d2 d3 sg db y1 y2 y3 y4 y5 y6 y7 y8 y9, [(if false = true then true else !rawB a b c (IntKind.i64.wrap y7)) = false, decide (3 ≥ m) = false, decide (3 ≥ m) = false, decide (3 ≥ m) = false, decide (3 ≥ m) = false, decide (3 ≥ m) = false, decide (3 ≥ m) = false, decide (3 ≥ m) = false, decide (3 ≥ m) = false, decide (3 ≥ m) = false]) := by kernel_rfl
theorem r3c (m a b c n k l s d0 d1 d2 d3 sg db y1 y2 y3 y4 y5 y6 y7 y8 y9 : Int) : execA Try.prog sgF 300 73 l10 (sL 3 m a b c n k l s d0 d1 d2 d3 sg db y1 y2 y3 y4 y5 y6 y7 y8 y9) ⟨0, [(1, true), (2, true), (3, true), (4, true), (5, true), (6, true), (7, true), (8, true), (9, true)], []⟩ (fun x s α => some (x, fgt KL 73 s, α.ob)) = some (.normal, sL 4 m a b c n k l s d0 d1 d2 d3 sg db y1 y2 y3 y4 y5 y6 0 y8 y9, [decide (3 ≥ m) = true, decide (3 ≥ m) = true, decide (3 ≥ m) = true, decide (3 ≥ m) = true, decide (3 ≥ m) = true, decide (3 ≥ m) = true, decide (3 ≥ m) = true, decide (3 ≥ m) = true, decide (3 ≥ m) = true]) := by kernel_rfl
theorem r3 (m a b c n k l s d0 d1 d2 d3 sg db y1 y2 y3 y4 y5 y6 y7 y8 y9 : Int) (h : U16 y7) {Q : X → S → Prop} (hq : Q .normal (sL 4 m a b c n k l s d0 d1 d2 d3 sg db y1 y2 y3 y4 y5 y6 (kp a b c (decide (m > 3)) y7) y8 y9)) : Tr Try.prog 73 l10 (sL 3 m a b c n k l s d0 d1 d2 d3 sg db y1 y2 y3 y4 y5 y6 y7 y8 y9) Q := by
  cases h2 : decide (3 ≥ m) with
  | true => rw [show decide (m > 3) = false by simp at h2 ⊢; omega, kp_f] at hq; exact Tr.path fitF (r3c m a b c n k l s d0 d1 d2 d3 sg db y1 y2 y3 y4 y5 y6 y7 y8 y9) (by simp only [All, h2]; simp) hq
  | false =>
    rw [show decide (m > 3) = true by simp at h2 ⊢; omega] at hq
    cases h3 : rawB a b c y7 with
    | false => rw [kp_0 h3] at hq; exact Tr.path fitF (r3a m a b c n k l s d0 d1 d2 d3 sg db y1 y2 y3 y4 y5 y6 y7 y8 y9) (by simp only [All, h2, wrap_u16 h, h3]; simp) hq
    | true => rw [kp_1 h3] at hq; exact Tr.path fitF (r3b m a b c n k l s d0 d1 d2 d3 sg db y1 y2 y3 y4 y5 y6 y7 y8 y9) (by simp only [All, h2, wrap_u16 h, h3]; simp) hq
theorem r4a (m a b c n k l s d0 d1 d2 d3 sg db y1 y2 y3 y4 y5 y6 y7 y8 y9 : Int) : execA Try.prog sgF 300 73 (cL (cR (cR thn10))) (sM m a b c n k l s d0 d1 d2 d3 sg db y1 y2 y3 y4 y5 y6 y7 y8 y9) ⟨0, [(0, false), (1, false), (2, false), (3, false), (4, false), (5, false), (6, false), (7, true)], []⟩ (fun x s α => some (x, fgt KM 73 s, α.ob)) = some (.normal, sM m a b c n k l s d0 d1 d2 d3 sg db y1 y2 y3 y4 y5 y6 y7 0 y9, [(if false = true then true else !rawB a b c (IntKind.i64.wrap y8)) = true, decide (m ≤ 4) = false, decide (m ≤ 4) = false, decide (m ≤ 4) = false, decide (m ≤ 4) = false, decide (m ≤ 4) = false, decide (m ≤ 4) = false, decide (m ≤ 4) = false]) := by kernel_rfl
theorem r4b (m a b c n k l s d0 d1 d2 d3 sg db y1 y2 y3 y4 y5 y6 y7 y8 y9 : Int) : execA Try.prog sgF 300 73 (cL (cR (cR thn10))) (sM m a b c n k l s d0 d1 d2 d3 sg db y1 y2 y3 y4 y5 y6 y7 y8 y9) ⟨0, [(0, false), (1, false), (2, false), (3, false), (4, false), (5, false), (6, false), (7, false)], []⟩ (fun x s α => some (x, fgt KM 73 s, α.ob)) = some (.normal, sM m a b c n k l s d0 d1 d2 d3 sg db y1 y2 y3 y4 y5 y6 y7 y8 y9, [(if false = true then true else !rawB a b c (IntKind.i64.wrap y8)) = false, decide (m ≤ 4) = false, decide (m ≤ 4) = false, decide (m ≤ 4) = false, decide (m ≤ 4) = false, decide (m ≤ 4) = false, decide (m ≤ 4) = false, decide (m ≤ 4) = false]) := by kernel_rfl
theorem r4c (m a b c n k l s d0 d1 d2 d3 sg db y1 y2 y3 y4 y5 y6 y7 y8 y9 : Int) : execA Try.prog sgF 300 73 (cL (cR (cR thn10))) (sM m a b c n k l s d0 d1 d2 d3 sg db y1 y2 y3 y4 y5 y6 y7 y8 y9) ⟨0, [(0, true), (1, true), (2, true), (3, true), (4, true), (5, true), (6, true)], []⟩ (fun x s α => some (x, fgt KM 73 s, α.ob)) = some (.normal, sM m a b c n k l s d0 d1 d2 d3 sg db y1 y2 y3 y4 y5 y6 y7 0 y9, [decide (m ≤ 4) = true, decide (m ≤ 4) = true, decide (m ≤ 4) = true, decide (m ≤ 4) = true, decide (m ≤ 4) = true, decide (m ≤ 4) = true, decide (m ≤ 4) = true]) := by kernel_rfl
theorem r4 (m a b c n k l s d0 d1 d2 d3 sg db y1 y2 y3 y4 y5 y6 y7 y8 y9 : Int) (h : U16 y8) {Q : X → S → Prop} (hq : Q .normal (sM m a b c n k l s d0 d1 d2 d3 sg db y1 y2 y3 y4 y5 y6 y7 (kp a b c (decide (m > 4)) y8) y9)) : Tr Try.prog 73 (cL (cR (cR thn10))) (sM m a b c n k l s d0 d1 d2 d3 sg db y1 y2 y3 y4 y5 y6 y7 y8 y9) Q := by
  cases h2 : decide (m ≤ 4) with
  | true => rw [show decide (m > 4) = false by simp at h2 ⊢; omega, kp_f] at hq; exact Tr.path fitF (r4c m a b c n k l s d0 d1 d2 d3 sg db y1 y2 y3 y4 y5 y6 y7 y8 y9) (by simp only [All, h2]; simp) hq
  | false =>
    rw [show decide (m > 4) = true by simp at h2 ⊢; omega] at hq
    cases h3 : rawB a b c y8 with
    | false => rw [kp_0 h3] at hq; exact Tr.path fitF (r4a m a b c n k l s d0 d1 d2 d3 sg db y1 y2 y3 y4 y5 y6 y7 y8 y9) (by simp only [All, h2, wrap_u16 h, h3]; simp) hq
    | true => rw [kp_1 h3] at hq; exact Tr.path fitF (r4b m a b c n k l s d0 d1 d2 d3 sg db y1 y2 y3 y4 y5 y6 y7 y8 y9) (by simp only [All, h2, wrap_u16 h, h3]; simp) hq
theorem r5a (m a b c n k l s d0 d1 d2 d3 sg db y1 y2 y3 y4 y5 y6 y7 y8 y9 : Int) : execA Try.prog sgF 300 73 (cR (cR (cR thn10))) (sM m a b c n k l s d0 d1 d2 d3 sg db y1 y2 y3 y4 y5 y6 y7 y8 y9) ⟨0, [(0, false), (1, false), (2, false), (3, false), (4, false), (5, false), (6, false), (7, true)], []⟩ (fun x s α => some (x, fgt KM 73 s, α.ob)) = some (.normal, sM m a b c n k l s d0 d1 d2 d3 sg db y1 y2 y3 y4 y5 y6 y7 y8 0, [(if false = true then true else !rawB a b c (IntKind.i64.wrap y9)) = true, decide (m ≤ 31) = false, decide (m ≤ 31) = false, decide (m ≤ 31) = false, decide (m ≤ 31) = false, decide (m ≤ 31) = false, decide (m ≤ 31) = false, decide (m ≤ 31) = false]) := by kernel_rfl
theorem r5b (m a b c n k l s d0 d1 d2 d3 sg db y1 y2 y3 y4 y5 y6 y7 y8 y9 : Int) : execA Try.prog sgF 300 73 (cR (cR (cR thn10))) (sM m a b c n k l s d0 d1 d2 d3 sg db y1 y2 y3 y4 y5 y6 y7 y8 y9) ⟨0, [(0, false), (1, false), (2, false), (3, false), (4, false), (5, false), (6, false), (7, false)], []⟩ (fun x s α => some (x, fgt KM 73 s, α.ob)) = some (.normal, sM m a b c n k l s d0 d1 d2 d3 sg db y1 y2 y3 y4 y5 y6 y7 y8 y9, [(if false = true then true else !rawB a b c (IntKind.i64.wrap y9)) = false, decide (m ≤ 31) = false, decide (m ≤ 31) = false, decide (m ≤ 31) = false, decide (m ≤ 31) = false, decide (m ≤ 31) = false, decide (m ≤ 31) = false, decide (m ≤ 31) = false]) := by kernel_rfl
theorem r5c (m a b c n k l s d0 d1 d2 d3 sg db y1 y2 y3 y4 y5 y6 y7 y8 y9 : Int) : execA Try.prog sgF 300 73 (cR (cR (cR thn10))) (sM m a b c n k l s d0 d1 d2 d3 sg db y1 y2 y3 y4 y5 y6 y7 y8 y9) ⟨0, [(0, true), (1, true), (2, true), (3, true), (4, true), (5, true), (6, true)], []⟩ (fun x s α => some (x, fgt KM 73 s, α.ob)) = some (.normal, sM m a b c n k l s d0 d1 d2 d3 sg db y1 y2 y3 y4 y5 y6 y7 y8 0, [decide (m ≤ 31) = true, decide (m ≤ 31) = true, decide (m ≤ 31) = true, decide (m ≤ 31) = true, decide (m ≤ 31) = true, decide (m ≤ 31) = true, decide (m ≤ 31) = true]) := by kernel_rfl
theorem r5 (m a b c n k l s d0 d1 d2 d3 sg db y1 y2 y3 y4 y5 y6 y7 y8 y9 : Int) (h : U16 y9) {Q : X → S → Prop} (hq : Q .normal (sM m a b c n k l s d0 d1 d2 d3 sg db y1 y2 y3 y4 y5 y6 y7 y8 (kp a b c (decide (m > 31)) y9))) : Tr Try.prog 73 (cR (cR (cR thn10))) (sM m a b c n k l s d0 d1 d2 d3 sg db y1 y2 y3 y4 y5 y6 y7 y8 y9) Q := by
  cases h2 : decide (m ≤ 31) with
  | true => rw [show decide (m > 31) = false by simp at h2 ⊢; omega, kp_f] at hq; exact Tr.path fitF (r5c m a b c n k l s d0 d1 d2 d3 sg db y1 y2 y3 y4 y5 y6 y7 y8 y9) (by simp only [All, h2]; simp) hq
  | false =>
    rw [show decide (m > 31) = true by simp at h2 ⊢; omega] at hq
    cases h3 : rawB a b c y9 with
    | false => rw [kp_0 h3] at hq; exact Tr.path fitF (r5a m a b c n k l s d0 d1 d2 d3 sg db y1 y2 y3 y4 y5 y6 y7 y8 y9) (by simp only [All, h2, wrap_u16 h, h3]; simp) hq
    | true => rw [kp_1 h3] at hq; exact Tr.path fitF (r5b m a b c n k l s d0 d1 d2 d3 sg db y1 y2 y3 y4 y5 y6 y7 y8 y9) (by simp only [All, h2, wrap_u16 h, h3]; simp) hq
theorem r4x (m a b c n k l s d0 d1 d2 d3 sg db y1 y2 y3 y4 y5 y6 y7 y8 y9 : Int) : execA Try.prog sgF 300 73 l10 (sL 4 m a b c n k l s d0 d1 d2 d3 sg db y1 y2 y3 y4 y5 y6 y7 y8 y9) ⟨0, [], []⟩ (fun x s α => some (x, fgt KM 73 s, α.ob)) = some (.exit 0, sM m a b c n k l s d0 d1 d2 d3 sg db y1 y2 y3 y4 y5 y6 y7 y8 y9, []) := by kernel_rfl
theorem rl4 (m a b c n k l s d0 d1 d2 d3 sg db y1 y2 y3 y4 y5 y6 y7 y8 y9 : Int) {Q : X → S → Prop} (hq : Q (.exit 0) (sM m a b c n k l s d0 d1 d2 d3 sg db y1 y2 y3 y4 y5 y6 y7 y8 y9)) : Tr Try.prog 73 (.loop l10) (sL 4 m a b c n k l s d0 d1 d2 d3 sg db y1 y2 y3 y4 y5 y6 y7 y8 y9) Q := by
  refine Tr.loop (Tr.path fitF (r4x m a b c n k l s d0 d1 d2 d3 sg db y1 y2 y3 y4 y5 y6 y7 y8 y9) trivial ?_)
  exact hq
theorem rl3 (m a b c n k l s d0 d1 d2 d3 sg db y1 y2 y3 y4 y5 y6 y7 y8 y9 : Int) (p3 : U16 y7) {Q : X → S → Prop} (hq : Q (.exit 0) (sM m a b c n k l s d0 d1 d2 d3 sg db y1 y2 y3 y4 y5 y6 (kp a b c (decide (m > 3)) y7) y8 y9)) : Tr Try.prog 73 (.loop l10) (sL 3 m a b c n k l s d0 d1 d2 d3 sg db y1 y2 y3 y4 y5 y6 y7 y8 y9) Q :=
  Tr.loop (r3 m a b c n k l s d0 d1 d2 d3 sg db y1 y2 y3 y4 y5 y6 y7 y8 y9 p3 (rl4 m a b c n k l s d0 d1 d2 d3 sg db y1 y2 y3 y4 y5 y6 (kp a b c (decide (m > 3)) y7) y8 y9  hq))
theorem rl2 (m a b c n k l s d0 d1 d2 d3 sg db y1 y2 y3 y4 y5 y6 y7 y8 y9 : Int) (p2 : U16 y6) (p3 : U16 y7) {Q : X → S → Prop} (hq : Q (.exit 0) (sM m a b c n k l s d0 d1 d2 d3 sg db y1 y2 y3 y4 y5 (kp a b c (decide (m > 2)) y6) (kp a b c (decide (m > 3)) y7) y8 y9)) : Tr Try.prog 73 (.loop l10) (sL 2 m a b c n k l s d0 d1 d2 d3 sg db y1 y2 y3 y4 y5 y6 y7 y8 y9) Q :=
  Tr.loop (r2 m a b c n k l s d0 d1 d2 d3 sg db y1 y2 y3 y4 y5 y6 y7 y8 y9 p2 (rl3 m a b c n k l s d0 d1 d2 d3 sg db y1 y2 y3 y4 y5 (kp a b c (decide (m > 2)) y6) y7 y8 y9 p3 hq))
theorem rl1 (m a b c n k l s d0 d1 d2 d3 sg db y1 y2 y3 y4 y5 y6 y7 y8 y9 : Int) (p1 : U16 y5) (p2 : U16 y6) (p3 : U16 y7) {Q : X → S → Prop} (hq : Q (.exit 0) (sM m a b c n k l s d0 d1 d2 d3 sg db y1 y2 y3 y4 (kp a b c (decide (m > 1)) y5) (kp a b c (decide (m > 2)) y6) (kp a b c (decide (m > 3)) y7) y8 y9)) : Tr Try.prog 73 (.loop l10) (sL 1 m a b c n k l s d0 d1 d2 d3 sg db y1 y2 y3 y4 y5 y6 y7 y8 y9) Q :=
  Tr.loop (r1 m a b c n k l s d0 d1 d2 d3 sg db y1 y2 y3 y4 y5 y6 y7 y8 y9 p1 (rl2 m a b c n k l s d0 d1 d2 d3 sg db y1 y2 y3 y4 (kp a b c (decide (m > 1)) y5) y6 y7 y8 y9 p2 p3 hq))
theorem rl0 (m a b c n k l s d0 d1 d2 d3 sg db y1 y2 y3 y4 y5 y6 y7 y8 y9 : Int) (p0 : U16 y4) (p1 : U16 y5) (p2 : U16 y6) (p3 : U16 y7) {Q : X → S → Prop} (hq : Q (.exit 0) (sM m a b c n k l s d0 d1 d2 d3 sg db y1 y2 y3 (kp a b c (decide (m > 0)) y4) (kp a b c (decide (m > 1)) y5) (kp a b c (decide (m > 2)) y6) (kp a b c (decide (m > 3)) y7) y8 y9)) : Tr Try.prog 73 (.loop l10) (sL 0 m a b c n k l s d0 d1 d2 d3 sg db y1 y2 y3 y4 y5 y6 y7 y8 y9) Q :=
  Tr.loop (r0 m a b c n k l s d0 d1 d2 d3 sg db y1 y2 y3 y4 y5 y6 y7 y8 y9 p0 (rl1 m a b c n k l s d0 d1 d2 d3 sg db y1 y2 y3 (kp a b c (decide (m > 0)) y4) y5 y6 y7 y8 y9 p1 p2 p3 hq))
noncomputable def sl10 (a b c n k l s d0 d1 d2 d3 sg db : Int) : T RV := match setArgs 73 (arg9 a b c n k l s d0 d1 d2 d3 sg db) 0 .nil some with | some t => t | none => .nil
theorem sl10_ok (a b c n k l s d0 d1 d2 d3 sg db : Int) : setArgs 73 (arg9 a b c n k l s d0 d1 d2 d3 sg db) 0 .nil some = some (sl10 a b c n k l s d0 d1 d2 d3 sg db) := by kernel_rfl
theorem q0 (a b c n k l s d0 d1 d2 d3 sg db : Int) : execA Try.prog sgF 300 73 (cL c10) ⟨sl10 a b c n k l s d0 d1 d2 d3 sg db, .nil, 0, []⟩ ⟨0, [], []⟩ (fun x s α => some (x, fgt KX 73 s, α.ob)) = some (.normal, sX a b c n k l s d0 d1 d2 d3 sg db, []) := by kernel_rfl
theorem q1a (a b c n k l s d0 d1 d2 d3 sg db : Int) : execA Try.prog sgF 300 73 (cL (cR c10)) (sX a b c n k l s d0 d1 d2 d3 sg db) ⟨0, [(0, true)], []⟩ (fun x s α => some (x, fgt KX 73 s, α.ob)) = some (.normal, sX a b c n 0 0 0 0 0 0 0 0 0, [(errI (chk k l s d0 d1 d2 d3 sg db) != 0) = true, 0 ≤ k, 0 ≤ s]) := by kernel_rfl
theorem q1b (a b c n k l s d0 d1 d2 d3 sg db : Int) : execA Try.prog sgF 300 73 (cL (cR c10)) (sX a b c n k l s d0 d1 d2 d3 sg db) ⟨0, [(0, false)], []⟩ (fun x s α => some (x, fgt KX 73 s, α.ob)) = some (.normal, sX a b c n k l s d0 d1 d2 d3 sg db, [(errI (chk k l s d0 d1 d2 d3 sg db) != 0) = false, 0 ≤ k, 0 ≤ s]) := by kernel_rfl
theorem q2 (a b c n k l s d0 d1 d2 d3 sg db : Int) : execA Try.prog sgF 300 73 (cL (cR (cR c10))) (sX a b c n k l s d0 d1 d2 d3 sg db) ⟨0, [], []⟩ (fun x s α => some (x, fgt KY 73 s, α.ob)) = some (.normal, sY a b c n k l s d0 d1 d2 d3 sg db k l s d0 d1 d2 d3 sg db, []) := by kernel_rfl
/-- the test of the kind -/
noncomputable def sK (a b c n k l s d0 d1 d2 d3 sg db y1 y2 y3 y4 y5 y6 y7 y8 y9 : Int) : S := fgt [1, 3, 6, 7, 17] 73 ⟨ysl n [(7, .one (.c (.ptr 3 0))), (17, .one (.c (.bool (y1 != 0))))], yhp a b c k l s d0 d1 d2 d3 sg db y1 y2 y3 y4 y5 y6 y7 y8 y9 Z9, 4, []⟩
theorem q3a (a b c n k l s d0 d1 d2 d3 sg db y1 y2 y3 y4 y5 y6 y7 y8 y9 : Int) : execA Try.prog sgF 300 73 (cL rest10) (sY a b c n k l s d0 d1 d2 d3 sg db y1 y2 y3 y4 y5 y6 y7 y8 y9) ⟨0, [(0, false)], []⟩ (fun x s α => some (x, fgt KY 73 s, α.ob)) = some (.normal, sY a b c n k l s d0 d1 d2 d3 sg db y1 y2 y3 y4 y5 y6 y7 y8 y9, [(y1 != 0) = false]) := by kernel_rfl
theorem q3r (a b c n k l s d0 d1 d2 d3 sg db y1 y2 y3 y4 y5 y6 y7 y8 y9 : Int) : execA Try.prog sgF 300 73 (cL (cL rest10)) (sY a b c n k l s d0 d1 d2 d3 sg db y1 y2 y3 y4 y5 y6 y7 y8 y9) ⟨0, [], []⟩ (fun x s α => some (x, fgt [1, 3, 6, 7, 17] 73 s, α.ob)) = some (.normal, sK a b c n k l s d0 d1 d2 d3 sg db y1 y2 y3 y4 y5 y6 y7 y8 y9, []) := by kernel_rfl
theorem q4 (a b c n k l s d0 d1 d2 d3 sg db y1 y2 y3 y4 y5 y6 y7 y8 y9 : Int) : execA Try.prog sgF 300 73 (cL thn10) (sY a b c n k l s d0 d1 d2 d3 sg db y1 y2 y3 y4 y5 y6 y7 y8 y9) ⟨0, [], []⟩ (fun x s α => some (x, fgt KM 73 s, α.ob)) = some (.normal, sM (blk (IntKind.i64.wrap y3)) a b c n k l s d0 d1 d2 d3 sg db y1 y2 y3 y4 y5 y6 y7 y8 y9, [0 ≤ IntKind.i64.wrap y3, IntKind.i64.wrap y3 < 4294967296]) := by kernel_rfl
theorem q5 (m a b c n k l s d0 d1 d2 d3 sg db y1 y2 y3 y4 y5 y6 y7 y8 y9 : Int) : execA Try.prog sgF 300 73 (cL (cL (cR thn10))) (sM m a b c n k l s d0 d1 d2 d3 sg db y1 y2 y3 y4 y5 y6 y7 y8 y9) ⟨0, [], []⟩ (fun x s α => some (x, fgt KL 73 s, α.ob)) = some (.normal, sL 0 m a b c n k l s d0 d1 d2 d3 sg db y1 y2 y3 y4 y5 y6 y7 y8 y9, []) := by kernel_rfl
noncomputable def e10 : Code := cR rest10
theorem e1 (a b c n k l s d0 d1 d2 d3 sg db y1 y2 y3 y4 y5 y6 y7 y8 y9 : Int) : execA Try.prog sgF 300 73 e10 (sY a b c n k l s d0 d1 d2 d3 sg db y1 y2 y3 y4 y5 y6 y7 y8 y9) ⟨0, [(0, true), (1, true), (2, true), (3, true), (4, true)], []⟩ (fun x s α => some (x, fgt [6] 73 s, α.ob)) = some (.ret, sE a b c k l s d0 d1 d2 d3 sg db y1 y2 y3 y4 y5 y6 y7 y8 y9 (inoL 2 1 0 0 0 0 0 0 0), [(if true = true then y1 != 2 else false) = true, (n == 1) = true, (n == 1) = true, (n == 1) = true, (n == 1) = true]) := by kernel_rfl
theorem e2 (a b c n k l s d0 d1 d2 d3 sg db y1 y2 y3 y4 y5 y6 y7 y8 y9 : Int) : execA Try.prog sgF 300 73 e10 (sY a b c n k l s d0 d1 d2 d3 sg db y1 y2 y3 y4 y5 y6 y7 y8 y9) ⟨0, [(0, true), (1, true), (2, true), (3, true), (4, false)], []⟩ (fun x s α => some (x, fgt [6] 73 s, α.ob)) = some (.ret, sE a b c k l s d0 d1 d2 d3 sg db y1 y2 y3 y4 y5 y6 y7 y8 y9 (inoL y1 y2 y3 y4 y5 y6 y7 y8 y9), [(if true = true then y1 != 2 else false) = false, (n == 1) = true, (n == 1) = true, (n == 1) = true, (n == 1) = true]) := by kernel_rfl
theorem e3 (a b c n k l s d0 d1 d2 d3 sg db y1 y2 y3 y4 y5 y6 y7 y8 y9 : Int) : execA Try.prog sgF 300 73 e10 (sY a b c n k l s d0 d1 d2 d3 sg db y1 y2 y3 y4 y5 y6 y7 y8 y9) ⟨0, [(0, false), (1, false), (2, false), (3, false)], []⟩ (fun x s α => some (x, fgt [6] 73 s, α.ob)) = some (.ret, sE a b c k l s d0 d1 d2 d3 sg db y1 y2 y3 y4 y5 y6 y7 y8 y9 (inoL y1 y2 y3 y4 y5 y6 y7 y8 y9), [(n == 1) = false, (n == 1) = false, (n == 1) = false, (n == 1) = false]) := by kernel_rfl
theorem eR (a b c k l s d0 d1 d2 d3 sg db y1 y2 y3 y4 y5 y6 y7 y8 y9 x1 x2 x3 x4 x5 x6 x7 x8 x9 : Int) : resOf Try.prog 73 (sE a b c k l s d0 d1 d2 d3 sg db y1 y2 y3 y4 y5 y6 y7 y8 y9 (inoL x1 x2 x3 x4 x5 x6 x7 x8 x9)) Try.f10.results.toList = some [.agg (inoL x1 x2 x3 x4 x5 x6 x7 x8 x9)] := by kernel_rfl
abbrev Ret10 (r : List Cell) : X → S → Prop := fun x s1 => (x = .normal ∨ x = .ret) ∧ ∃ l, resOf Try.prog 73 s1 Try.f10.results.toList = some l ∧ resRV l = .one (.agg r)
theorem end10 (a b c n k l s d0 d1 d2 d3 sg db y1 y2 y3 y4 y5 y6 y7 y8 y9 : Int) : Tr Try.prog 73 e10 (sY a b c n k l s d0 d1 d2 d3 sg db y1 y2 y3 y4 y5 y6 y7 y8 y9) (Ret10 (fin9 n y1 y2 y3 y4 y5 y6 y7 y8 y9)) := by
  cases h1 : (n == 1) with
  | false =>
    refine Tr.path fitF (e3 a b c n k l s d0 d1 d2 d3 sg db y1 y2 y3 y4 y5 y6 y7 y8 y9) (by simp only [All, h1]; simp) ⟨.inr rfl, _, eR _ _ _ _ _ _ _ _ _ _ _ _ _ _ _ _ _ _ _ _ _ _ _ _ _ _ _ _ _ _, ?_⟩
    simp at h1
    rw [fin9, if_neg (fun h => h1 h.1)]; rfl
  | true =>
    cases h2 : (y1 != 2) with
    | false =>
      refine Tr.path fitF (e2 a b c n k l s d0 d1 d2 d3 sg db y1 y2 y3 y4 y5 y6 y7 y8 y9) (by simp only [All, h1, h2]; simp) ⟨.inr rfl, _, eR _ _ _ _ _ _ _ _ _ _ _ _ _ _ _ _ _ _ _ _ _ _ _ _ _ _ _ _ _ _, ?_⟩
      simp at h2
      rw [fin9, if_neg (fun h => h.2 h2)]; rfl
    | true =>
      refine Tr.path fitF (e1 a b c n k l s d0 d1 d2 d3 sg db y1 y2 y3 y4 y5 y6 y7 y8 y9) (by simp only [All, h1, h2]; simp) ⟨.inr rfl, _, eR _ _ _ _ _ _ _ _ _ _ _ _ _ _ _ _ _ _ _ _ _ _ _ _ _ _ _ _ _ _, ?_⟩
      simp at h1 h2
      rw [fin9, if_pos ⟨h1, h2⟩]; rfl
theorem fgtM (a b c n k l s d0 d1 d2 d3 sg db y1 y2 y3 y4 y5 y6 y7 y8 y9 m : Int) : fgt KY 73 (sM m a b c n k l s d0 d1 d2 d3 sg db y1 y2 y3 y4 y5 y6 y7 y8 y9) = sY a b c n k l s d0 d1 d2 d3 sg db y1 y2 y3 y4 y5 y6 y7 y8 y9 := by kernel_rfl
theorem thn (a b c n k l s d0 d1 d2 d3 sg db y1 y2 y3 y4 y5 y6 y7 y8 y9 : Int) (hs : 0 ≤ y3) (hs1 : y3 < 4294967296) (p0 : U16 y4) (p1 : U16 y5) (p2 : U16 y6) (p3 : U16 y7) (p4 : U16 y8) (p5 : U16 y9) {Q : X → S → Prop} (hq : Q .normal (sY a b c n k l s d0 d1 d2 d3 sg db y1 y2 y3 (kp a b c (decide ((blk y3) > 0)) y4) (kp a b c (decide ((blk y3) > 1)) y5) (kp a b c (decide ((blk y3) > 2)) y6) (kp a b c (decide ((blk y3) > 3)) y7) (kp a b c (decide ((blk y3) > 4)) y8) (kp a b c (decide ((blk y3) > 31)) y9))) : Tr Try.prog 73 thn10 (sY a b c n k l s d0 d1 d2 d3 sg db y1 y2 y3 y4 y5 y6 y7 y8 y9) Q := by
  have hC := q4 a b c n k l s d0 d1 d2 d3 sg db y1 y2 y3 y4 y5 y6 y7 y8 y9
  rw [wrap_u32 hs hs1] at hC
  refine Tr.seq (c := cL thn10) (d := cR thn10) (Tr.path fitF hC ⟨hs, hs1, trivial⟩ ?_)
  refine Tr.seq (c := cL (cR thn10)) (d := cR (cR thn10)) ?_
  refine Tr.seq (c := cL (cL (cR thn10))) (d := .block 0 (.loop l10)) (Tr.path fitF (q5 (blk y3) a b c n k l s d0 d1 d2 d3 sg db y1 y2 y3 y4 y5 y6 y7 y8 y9) trivial ?_)
  refine Tr.block (rl0 (blk y3) a b c n k l s d0 d1 d2 d3 sg db y1 y2 y3 y4 y5 y6 y7 y8 y9 p0 p1 p2 p3 ?_)
  refine Tr.seq (c := cL (cR (cR thn10))) (d := cR (cR (cR thn10))) (r4 (blk y3) a b c n k l s d0 d1 d2 d3 sg db y1 y2 y3 (kp a b c (decide ((blk y3) > 0)) y4) (kp a b c (decide ((blk y3) > 1)) y5) (kp a b c (decide ((blk y3) > 2)) y6) (kp a b c (decide ((blk y3) > 3)) y7) y8 y9 p4 ?_)
  refine Tr.fgt KY (r5 (blk y3) a b c n k l s d0 d1 d2 d3 sg db y1 y2 y3 (kp a b c (decide ((blk y3) > 0)) y4) (kp a b c (decide ((blk y3) > 1)) y5) (kp a b c (decide ((blk y3) > 2)) y6) (kp a b c (decide ((blk y3) > 3)) y7) (kp a b c (decide ((blk y3) > 4)) y8) y9 p5 ?_)
  rw [fgtM]
  exact hq
/-- the reference's own way to it -/
def mid10 (a b c n y1 y2 y3 y4 y5 y6 y7 y8 y9 : Int) : List Cell := if y1 = 0 then fin9 n y1 y2 y3 y4 y5 y6 y7 y8 y9 else mid9 a b c n y1 y2 y3 y4 y5 y6 y7 y8 y9
theorem tail10 (a b c n k l s d0 d1 d2 d3 sg db y1 y2 y3 y4 y5 y6 y7 y8 y9 : Int) (hs : 0 ≤ y3) (hs1 : y3 < 4294967296) (p0 : U16 y4) (p1 : U16 y5) (p2 : U16 y6) (p3 : U16 y7) (p4 : U16 y8) (p5 : U16 y9) :
    Tr Try.prog 73 rest10 (sY a b c n k l s d0 d1 d2 d3 sg db y1 y2 y3 y4 y5 y6 y7 y8 y9) (Ret10 (mid10 a b c n y1 y2 y3 y4 y5 y6 y7 y8 y9)) := by
  refine Tr.seq (c := cL rest10) (d := e10) ?_
  by_cases h : y1 = 0
  · rw [mid10, if_pos h]
    refine Tr.path fitF (q3a a b c n k l s d0 d1 d2 d3 sg db y1 y2 y3 y4 y5 y6 y7 y8 y9) ⟨by simp [h], trivial⟩ ?_
    exact end10 a b c n k l s d0 d1 d2 d3 sg db y1 y2 y3 y4 y5 y6 y7 y8 y9
  · rw [mid10, if_neg h]
    refine Tr.seq (c := cL (cL rest10)) (d := .cond (.tmp 17) thn10 .skip) (Tr.path fitF (q3r a b c n k l s d0 d1 d2 d3 sg db y1 y2 y3 y4 y5 y6 y7 y8 y9) trivial ?_)
    refine Tr.condT (t := y1 != 0) (by kernel_rfl) (by simp [h]) ?_
    refine Tr.pre KY ?_
    rw [show fgt KY 73 (sK a b c n k l s d0 d1 d2 d3 sg db y1 y2 y3 y4 y5 y6 y7 y8 y9) = sY a b c n k l s d0 d1 d2 d3 sg db y1 y2 y3 y4 y5 y6 y7 y8 y9 by kernel_rfl]
    refine thn a b c n k l s d0 d1 d2 d3 sg db y1 y2 y3 y4 y5 y6 y7 y8 y9 hs hs1 p0 p1 p2 p3 p4 p5 ?_
    exact end10 _ _ _ _ _ _ _ _ _ _ _ _ _ y1 y2 y3 _ _ _ _ _ _
def should10 (a b c n k l s d0 d1 d2 d3 sg db : Int) : List Cell := if chk k l s d0 d1 d2 d3 sg db then mid10 a b c n k l s d0 d1 d2 d3 sg db else mid10 a b c n 0 0 0 0 0 0 0 0 0
theorem body10 (a b c n k l s d0 d1 d2 d3 sg db : Int) (hk : 0 ≤ k) (hs : 0 ≤ s) (hs1 : s < 4294967296) (p0 : U16 d0) (p1 : U16 d1) (p2 : U16 d2) (p3 : U16 d3) (p4 : U16 sg) (p5 : U16 db) :
    Tr Try.prog 73 c10 ⟨sl10 a b c n k l s d0 d1 d2 d3 sg db, .nil, 0, []⟩ (Ret10 (should10 a b c n k l s d0 d1 d2 d3 sg db)) := by
  refine Tr.seq (c := cL c10) (d := cR c10) (Tr.path fitF (q0 a b c n k l s d0 d1 d2 d3 sg db) trivial ?_)
  refine Tr.seq (c := cL (cR c10)) (d := cR (cR c10)) ?_
  cases h : chk k l s d0 d1 d2 d3 sg db with
  | false =>
    refine Tr.path fitF (q1a a b c n k l s d0 d1 d2 d3 sg db) ⟨by rw [errI_ne, h]; rfl, hk, hs, trivial⟩ ?_
    rw [should10, h]
    refine Tr.seq (c := cL (cR (cR c10))) (d := rest10) (Tr.path fitF (q2 a b c n 0 0 0 0 0 0 0 0 0) trivial ?_)
    exact tail10 _ _ _ _ _ _ _ _ _ _ _ _ _ _ _ _ _ _ _ _ _ _ (by omega) (by omega) u0 u0 u0 u0 u0 u0
  | true =>
    refine Tr.path fitF (q1b a b c n k l s d0 d1 d2 d3 sg db) ⟨by rw [errI_ne, h]; rfl, hk, hs, trivial⟩ ?_
    rw [should10, h]
    refine Tr.seq (c := cL (cR (cR c10))) (d := rest10) (Tr.path fitF (q2 a b c n k l s d0 d1 d2 d3 sg db) trivial ?_)
    exact tail10 _ _ _ _ _ _ _ _ _ _ _ _ _ _ _ _ _ _ _ _ _ _ hs hs1 p0 p1 p2 p3 p4 p5
end Go.Sx
