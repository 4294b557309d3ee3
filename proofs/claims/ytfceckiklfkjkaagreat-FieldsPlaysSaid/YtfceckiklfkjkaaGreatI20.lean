/-
  Parts of the executor Sx over the model's code (any program), or of this seat's walks: words and proofs that the row's text uses.
-/
import Derived.Test.YtfceckiklfkjkaaGreatF17
import Derived.Test.YtfceckiklfkjkaaGreatG7
import Derived.Test.YtfceckiklfkjkaaGreatQ1
import Derived.Test.YtfceckiklfkjkaaGreatSxY
import Derived.Test.YtfceckiklfkjkaaGreatQ4
namespace Go.Sx
open Go.Proofs Go.RowKit

theorem ArgsR.one {ρ : Rho} {x : RV} {vs : List Value} (h : ArgsR ρ [x] vs) : ∃ V, RVR ρ x V ∧ vs = [V] := by
  obtain ⟨V, vs', h1, h2, rfl⟩ := h
  cases h2
  exact ⟨V, h1, rfl⟩
theorem ArgsR.two {ρ : Rho} {x y : RV} {vs : List Value} (h : ArgsR ρ [x, y] vs) : ∃ V W, RVR ρ x V ∧ RVR ρ y W ∧ vs = [V, W] := by
  obtain ⟨V, vs', h1, h2, rfl⟩ := h
  obtain ⟨W, h3, rfl⟩ := h2.one
  exact ⟨V, W, h1, h3, rfl⟩
namespace Fi
def fChk (args : List RV) : Option (RV × List Prop) := match args with
  | [.one (.agg [.int .u8 k, .int .u8 l, .int .u32 s, .int .u16 d0, .int .u16 d1, .int .u16 d2, .int .u16 d3, .int .u16 sg, .int .u16 db])] => some (.one (.c (.int .i64 (errI (chk k l s d0 d1 d2 d3 sg db)))), [0 ≤ k, 0 ≤ s])
  | _ => none
def fBks (args : List RV) : Option (RV × List Prop) := match args with
  | [.one (.c (.int .i64 n))] => some (.one (.c (.int .i64 (blk n))), [0 ≤ n, n < 4294967296])
  | _ => none
def fRaw (args : List RV) : Option (RV × List Prop) := match args with
  | [.one (.agg [.int .i64 a, .int .i64 b, .int .i64 c]), .one (.c (.int .u16 s))] => some (.one (.c (.bool (rawB a b c s))), [0 ≤ s, s < 65536])
  | _ => none
def fRawR (args : List RV) : Option (RV × List Prop) := match args with
  | [.one (.agg [.int .i64 a, .int .i64 b, .int .i64 c]), .one (.c (.int .i64 s))] => some (.one (.c (.bool (rawB a b c s))), [])
  | _ => none

theorem fChk_ok (f : FuncId) (hc : ∀ (k l s d0 d1 d2 d3 sg db : Int), 0 ≤ k → 0 ≤ s → ∀ w : World, Chk f k l s d0 d1 d2 d3 sg db w (errI (chk k l s d0 d1 d2 d3 sg db))) : PureOK Tryz.prog f fChk := by
  intro args v ps h hp ρ w vs ha
  unfold fChk at h
  split at h <;> try (cases h; done)
  simp only [Option.some.injEq, Prod.mk.injEq] at h
  obtain ⟨rfl, rfl⟩ := h
  obtain ⟨V, h1, rfl⟩ := ha.one
  rw [agg_vals h1 rfl]
  exact (hc _ _ _ _ _ _ _ _ _ hp.1 hp.2.1 w).mono fun e w' ⟨e1, e2⟩ => ⟨_, e1, rfl, e2⟩
theorem fBks_ok (f : FuncId) (hc : ∀ (n : Int), 0 ≤ n → n < 4294967296 → ∀ w : World, Calls Tryz.prog f #[.int .i64 n] w fun e w' => e = .returned (.int .i64 (blk n)) ∧ w' = w) : PureOK Tryz.prog f fBks := by
  intro args v ps h hp ρ w vs ha
  unfold fBks at h
  split at h <;> try (cases h; done)
  simp only [Option.some.injEq, Prod.mk.injEq] at h
  obtain ⟨rfl, rfl⟩ := h
  obtain ⟨V, h1, rfl⟩ := ha.one
  cases h1
  exact (hc _ hp.1 hp.2.1 w).mono fun e w' ⟨e1, e2⟩ => ⟨_, e1, rfl, by rw [e2]; exact Below.refl _ _⟩
theorem fRaw_ok : PureOK Tryz.prog 146 fRaw := by
  intro args v ps h hp ρ w vs ha
  unfold fRaw at h
  split at h <;> try (cases h; done)
  simp only [Option.some.injEq, Prod.mk.injEq] at h
  obtain ⟨rfl, rfl⟩ := h
  obtain ⟨V, W, h1, h2, rfl⟩ := ha.two
  rw [agg_vals h1 rfl]
  cases h2
  exact (dataAny _ _ _ _ hp.1 hp.2.1 w).mono fun e w' ⟨e1, e2⟩ => ⟨_, e1, rfl, e2⟩
theorem fRawR_ok : PureOK Tryz.prog 56 fRawR := by
  intro args v ps h hp ρ w vs ha
  unfold fRawR at h
  split at h <;> try (cases h; done)
  simp only [Option.some.injEq, Prod.mk.injEq] at h
  obtain ⟨rfl, rfl⟩ := h
  obtain ⟨V, W, h1, h2, rfl⟩ := ha.two
  rw [agg_vals h1 rfl]
  cases h2
  exact (refData _ _ _ _ w).mono fun e w' ⟨e1, e2⟩ => ⟨_, e1, rfl, e2⟩

def sgF : FuncId → Option SumA := fun f => match f with
  | 144 => some (pureSum fChk) | 164 => some (pureSum fChk) | 145 => some (pureSum fBks) | 59 => some (pureSum fBks) | 146 => some (pureSum fRaw) | 56 => some (pureSum fRawR) | _ => none
theorem fitF : Fit Tryz.prog (fun f => (sgF f).map toSum) := ⟨fit_ng, fit_mixed, SumAOK.sum fun f sm h => by
  unfold sgF at h
  split at h
  · cases h; exact (fChk_ok 144 inoCheck).sum ⟨_, Tryz.func144, rfl⟩
  · cases h; exact (fChk_ok 164 refCheck).sum ⟨_, Tryz.func164, rfl⟩
  · cases h; exact (fBks_ok 145 blocks_any).sum ⟨_, Tryz.func145, rfl⟩
  · cases h; exact (fBks_ok 59 refBlocks_any).sum ⟨_, Tryz.func59, rfl⟩
  · cases h; exact fRaw_ok.sum ⟨_, Tryz.func146, rfl⟩
  · cases h; exact fRawR_ok.sum ⟨_, Tryz.func56, rfl⟩
  · cases h⟩
end Fi
end Go.Sx

namespace Go.Sx.Fi
open Go.Proofs Go.RowKit
set_option maxRecDepth 100000
noncomputable def cR : Code → Code | .seq _ b => b | .block _ c => c | .loop c => c | .cond _ _ e => e | c => c
noncomputable def cL : Code → Code | .seq a _ => a | .block _ c => c | .loop c => c | .cond _ t _ => t | c => c
noncomputable def body (f : Nat) : Code := match Tryz.prog.funcs[f]? with | some fn => (match fn.body with | some c => c | none => .skip) | none => .skip
noncomputable def c9 : Code := body 75
/-- Should, behind the test: heap and slots -/
noncomputable def shp (a b c k l s d0 d1 d2 d3 sg db : Int) (bx : List (Nat × Blk)) : T Blk := ofL ([(0, .row 62 false none (.cells [.int .i64 a, .int .i64 b, .int .i64 c])), (1, .row 27 false none (.cells [.int .u8 k, .int .u8 l, .int .u32 s, .int .u16 d0, .int .u16 d1, .int .u16 d2, .int .u16 d3, .int .u16 sg, .int .u16 db])),
  (2, .row 27 false none (.cells [.int .u8 0, .int .u8 0, .int .u32 0, .int .u16 0, .int .u16 0, .int .u16 0, .int .u16 0, .int .u16 0, .int .u16 0]))] ++ bx)
noncomputable def ssl (n : Int) (r : List (Nat × RV)) : T RV := ofL ([(1, .one (.c (.int .i64 n))), (3, .one (.c (.ptr 0 0))), (5, .one (.c (.ptr 1 0))), (6, .one (.c (.ptr 2 0)))] ++ r)
noncomputable def arr (m : Int) : RV := .one (.agg [.ptr 1 3, .bool (decide (m > 0)), .ptr 1 4, .bool (decide (m > 1)), .ptr 1 5, .bool (decide (m > 2)), .ptr 1 6, .bool (decide (m > 3)), .ptr 1 7, .bool (decide (m > 4)), .ptr 1 8, .bool (decide (m > 31))])
noncomputable def bxs (m : Int) (j : Nat) : List (Nat × Blk) := List.take j [(3, .row 208 false none (.cells [.ptr 1 3, .bool (decide (m > 0))])), (4, .row 208 false none (.cells [.ptr 1 4, .bool (decide (m > 1))])), (5, .row 208 false none (.cells [.ptr 1 5, .bool (decide (m > 2))])),
  (6, .row 208 false none (.cells [.ptr 1 6, .bool (decide (m > 3))])), (7, .row 208 false none (.cells [.ptr 1 7, .bool (decide (m > 4))])), (8, .row 208 false none (.cells [.ptr 1 8, .bool (decide (m > 31))]))]
noncomputable def l9 : Code := cL (cL (cR (cL (cR (cR (cR c9))))))
noncomputable def st1 (a b c n k l s d0 d1 d2 d3 sg db : Int) : S := fgt [1, 3, 5, 6] 75 ⟨ssl n [], shp a b c k l s d0 d1 d2 d3 sg db [], 3, []⟩
noncomputable def st2 (m a b c n k l s d0 d1 d2 d3 sg db : Int) : S := fgt [1, 3, 5, 6, 7] 75 ⟨ssl n [(7, .one (.c (.int .i64 m)))], shp a b c k l s d0 d1 d2 d3 sg db [], 3, []⟩
noncomputable def stL (j : Nat) (m a b c n k l s d0 d1 d2 d3 sg db : Int) : S := fgt [1, 3, 5, 6, 46, 47] 75 ⟨ssl n [(46, arr m), (47, .one (.c (.int .i64 j)))], shp a b c k l s d0 d1 d2 d3 sg db (bxs m j), 3 + j, []⟩
theorem kp_f {a b c d : Int} : kp a b c false d = 0 := rfl
theorem kp_0 {a b c d : Int} (h : rawB a b c d = false) : kp a b c true d = 0 := by unfold kp; rw [h]; rfl
theorem kp_1 {a b c d : Int} (h : rawB a b c d = true) : kp a b c true d = d := by unfold kp; rw [h]; rfl
abbrev KP : List Nat := [1, 3, 5, 6, 46, 47]
theorem it0a (m a b c n k l s d0 d1 d2 d3 sg db : Int) : execA Tryz.prog sgF 300 75 l9 (stL 0 m a b c n k l s d0 d1 d2 d3 sg db) ⟨0, [(2, false), (3, false), (4, false), (5, false), (6, false), (7, false), (8, false), (9, false), (10, true)], []⟩ (fun x s α => some (x, fgt KP 75 s, α.ob)) = some (.normal, stL 1 m a b c n k l s 0 d1 d2 d3 sg db, [(if false = true then true else !rawB a b c d0) = true, (!decide (m > 0)) = false, (!decide (m > 0)) = false, 0 ≤ d0, d0 < 65536, (!decide (m > 0)) = false, (!decide (m > 0)) = false, (!decide (m > 0)) = false, (!decide (m > 0)) = false, (!decide (m > 0)) = false, (!decide (m > 0)) = false]) := by kernel_rfl
theorem it0b (m a b c n k l s d0 d1 d2 d3 sg db : Int) : execA Tryz.prog sgF 300 75 l9 (stL 0 m a b c n k l s d0 d1 d2 d3 sg db) ⟨0, [(2, false), (3, false), (4, false), (5, false), (6, false), (7, false), (8, false), (9, false), (10, false)], []⟩ (fun x s α => some (x, fgt KP 75 s, α.ob)) = some (.normal, stL 1 m a b c n k l s d0 d1 d2 d3 sg db, [(if false = true then true else !rawB a b c d0) = false, (!decide (m > 0)) = false, (!decide (m > 0)) = false, 0 ≤ d0, d0 < 65536, (!decide (m > 0)) = false, (!decide (m > 0)) = false, (!decide (m > 0)) = false, (!decide (m > 0)) = false, (!decide (m > 0)) = false, (!decide (m > 0)) = false]) := by kernel_rfl
theorem it0c (m a b c n k l s d0 d1 d2 d3 sg db : Int) : execA Tryz.prog sgF 300 75 l9 (stL 0 m a b c n k l s d0 d1 d2 d3 sg db) ⟨0, [(2, true), (3, true), (4, true), (5, true), (6, true), (7, true), (8, true), (9, true)], []⟩ (fun x s α => some (x, fgt KP 75 s, α.ob)) = some (.normal, stL 1 m a b c n k l s 0 d1 d2 d3 sg db, [(!decide (m > 0)) = true, (!decide (m > 0)) = true, (!decide (m > 0)) = true, (!decide (m > 0)) = true, (!decide (m > 0)) = true, (!decide (m > 0)) = true, (!decide (m > 0)) = true, (!decide (m > 0)) = true]) := by kernel_rfl
theorem it0 (m a b c n k l s d0 d1 d2 d3 sg db : Int) (h0 : 0 ≤ d0) (h1 : d0 < 65536) {Q : X → S → Prop} (hq : Q .normal (stL 1 m a b c n k l s (kp a b c (decide (m > 0)) d0) d1 d2 d3 sg db)) : Tr Tryz.prog 75 l9 (stL 0 m a b c n k l s d0 d1 d2 d3 sg db) Q := by
  cases h2 : decide (m > 0) with
  | false => rw [h2, kp_f] at hq; exact Tr.path fitF (it0c m a b c n k l s d0 d1 d2 d3 sg db) (by simp only [All, h2]; simp) hq
  | true =>
    rw [h2] at hq
    cases h3 : rawB a b c d0 with
    | false => rw [kp_0 h3] at hq; exact Tr.path fitF (it0a m a b c n k l s d0 d1 d2 d3 sg db) (by simp only [All, h2, h3]; simp [h0, h1]) hq
    | true => rw [kp_1 h3] at hq; exact Tr.path fitF (it0b m a b c n k l s d0 d1 d2 d3 sg db) (by simp only [All, h2, h3]; simp [h0, h1]) hq
theorem it1a (m a b c n k l s d0 d1 d2 d3 sg db : Int) : execA Tryz.prog sgF 300 75 l9 (stL 1 m a b c n k l s d0 d1 d2 d3 sg db) ⟨0, [(2, false), (3, false), (4, false), (5, false), (6, false), (7, false), (8, false), (9, false), (10, true)], []⟩ (fun x s α => some (x, fgt KP 75 s, α.ob)) = some (.normal, stL 2 m a b c n k l s d0 0 d2 d3 sg db, [(if false = true then true else !rawB a b c d1) = true, (!decide (m > 1)) = false, (!decide (m > 1)) = false, 0 ≤ d1, d1 < 65536, (!decide (m > 1)) = false, (!decide (m > 1)) = false, (!decide (m > 1)) = false, (!decide (m > 1)) = false, (!decide (m > 1)) = false, (!decide (m > 1)) = false]) := by kernel_rfl
theorem it1b (m a b c n k l s d0 d1 d2 d3 sg db : Int) : execA Tryz.prog sgF 300 75 l9 (stL 1 m a b c n k l s d0 d1 d2 d3 sg db) ⟨0, [(2, false), (3, false), (4, false), (5, false), (6, false), (7, false), (8, false), (9, false), (10, false)], []⟩ (fun x s α => some (x, fgt KP 75 s, α.ob)) = some (.normal, stL 2 m a b c n k l s d0 d1 d2 d3 sg db, [(if false = true then true else !rawB a b c d1) = false, (!decide (m > 1)) = false, (!decide (m > 1)) = false, 0 ≤ d1, d1 < 65536, (!decide (m > 1)) = false, (!decide (m > 1)) = false, (!decide (m > 1)) = false, (!decide (m > 1)) = false, (!decide (m > 1)) = false, (!decide (m > 1)) = false]) := by kernel_rfl
theorem it1c (m a b c n k l s d0 d1 d2 d3 sg db : Int) : execA Tryz.prog sgF 300 75 l9 (stL 1 m a b c n k l s d0 d1 d2 d3 sg db) ⟨0, [(2, true), (3, true), (4, true), (5, true), (6, true), (7, true), (8, true), (9, true)], []⟩ (fun x s α => some (x, fgt KP 75 s, α.ob)) = some (.normal, stL 2 m a b c n k l s d0 0 d2 d3 sg db, [(!decide (m > 1)) = true, (!decide (m > 1)) = true, (!decide (m > 1)) = true, (!decide (m > 1)) = true, (!decide (m > 1)) = true, (!decide (m > 1)) = true, (!decide (m > 1)) = true, (!decide (m > 1)) = true]) := by kernel_rfl
theorem it1 (m a b c n k l s d0 d1 d2 d3 sg db : Int) (h0 : 0 ≤ d1) (h1 : d1 < 65536) {Q : X → S → Prop} (hq : Q .normal (stL 2 m a b c n k l s d0 (kp a b c (decide (m > 1)) d1) d2 d3 sg db)) : Tr Tryz.prog 75 l9 (stL 1 m a b c n k l s d0 d1 d2 d3 sg db) Q := by
  cases h2 : decide (m > 1) with
  | false => rw [h2, kp_f] at hq; exact Tr.path fitF (it1c m a b c n k l s d0 d1 d2 d3 sg db) (by simp only [All, h2]; simp) hq
  | true =>
    rw [h2] at hq
    cases h3 : rawB a b c d1 with
    | false => rw [kp_0 h3] at hq; exact Tr.path fitF (it1a m a b c n k l s d0 d1 d2 d3 sg db) (by simp only [All, h2, h3]; simp [h0, h1]) hq
    | true => rw [kp_1 h3] at hq; exact Tr.path fitF (it1b m a b c n k l s d0 d1 d2 d3 sg db) (by simp only [All, h2, h3]; simp [h0, h1]) hq
theorem it2a (m a b c n k l s d0 d1 d2 d3 sg db : Int) : execA Tryz.prog sgF 300 75 l9 (stL 2 m a b c n k l s d0 d1 d2 d3 sg db) ⟨0, [(2, false), (3, false), (4, false), (5, false), (6, false), (7, false), (8, false), (9, false), (10, true)], []⟩ (fun x s α => some (x, fgt KP 75 s, α.ob)) = some (.normal, stL 3 m a b c n k l s d0 d1 0 d3 sg db, [(if false = true then true else !rawB a b c d2) = true, (!decide (m > 2)) = false, (!decide (m > 2)) = false, 0 ≤ d2, d2 < 65536, (!decide (m > 2)) = false, (!decide (m > 2)) = false, (!decide (m > 2)) = false, (!decide (m > 2)) = false, (!decide (m > 2)) = false, (!decide (m > 2)) = false]) := by kernel_rfl
theorem it2b (m a b c n k l s d0 d1 d2 d3 sg db : Int) : execA Tryz.prog sgF 300 75 l9 (stL 2 m a b c n k l s d0 d1 d2 d3 sg db) ⟨0, [(2, false), (3, false), (4, false), (5, false), (6, false), (7, false), (8, false), (9, false), (10, false)], []⟩ (fun x s α => some (x, fgt KP 75 s, α.ob)) = some (.normal, stL 3 m a b c n k l s d0 d1 d2 d3 sg db, [(if false = true then true else !rawB a b c d2) = false, (!decide (m > 2)) = false, (!decide (m > 2)) = false, 0 ≤ d2, d2 < 65536, (!decide (m > 2)) = false, (!decide (m > 2)) = false, (!decide (m > 2)) = false, (!decide (m > 2)) = false, (!decide (m > 2)) = false, (!decide (m > 2)) = false]) := by kernel_rfl
theorem it2c (m a b c n k l s d0 d1 d2 d3 sg db : Int) : execA Tryz.prog sgF 300 75 l9 (stL 2 m a b c n k l s d0 d1 d2 d3 sg db) ⟨0, [(2, true), (3, true), (4, true), (5, true), (6, true), (7, true), (8, true), (9, true)], []⟩ (fun x s α => some (x, fgt KP 75 s, α.ob)) = some (.normal, stL 3 m a b c n k l s d0 d1 0 d3 sg db, [(!decide (m > 2)) = true, (!decide (m > 2)) = true, (!decide (m > 2)) = true, (!decide (m > 2)) = true, (!decide (m > 2)) = true, (!decide (m > 2)) = true, (!decide (m > 2)) = true, (!decide (m > 2)) = true]) := by kernel_rfl
theorem it2 (m a b c n k l s d0 d1 d2 d3 sg db : Int) (h0 : 0 ≤ d2) (h1 : d2 < 65536) {Q : X → S → Prop} (hq : Q .normal (stL 3 m a b c n k l s d0 d1 (kp a b c (decide (m > 2)) d2) d3 sg db)) : Tr Tryz.prog 75 l9 (stL 2 m a b c n k l s d0 d1 d2 d3 sg db) Q := by
  cases h2 : decide (m > 2) with
  | false => rw [h2, kp_f] at hq; exact Tr.path fitF (it2c m a b c n k l s d0 d1 d2 d3 sg db) (by simp only [All, h2]; simp) hq
  | true =>
    rw [h2] at hq
    cases h3 : rawB a b c d2 with
    | false => rw [kp_0 h3] at hq; exact Tr.path fitF (it2a m a b c n k l s d0 d1 d2 d3 sg db) (by simp only [All, h2, h3]; simp [h0, h1]) hq
    | true => rw [kp_1 h3] at hq; exact Tr.path fitF (it2b m a b c n k l s d0 d1 d2 d3 sg db) (by simp only [All, h2, h3]; simp [h0, h1]) hq
theorem it3a (m a b c n k l s d0 d1 d2 d3 sg db : Int) : execA Tryz.prog sgF 300 75 l9 (stL 3 m a b c n k l s d0 d1 d2 d3 sg db) ⟨0, [(2, false), (3, false), (4, false), (5, false), (6, false), (7, false), (8, false), (9, false), (10, true)], []⟩ (fun x s α => some (x, fgt KP 75 s, α.ob)) = some (.normal, stL 4 m a b c n k l s d0 d1 d2 0 sg db, [(if false = true then true else !rawB a b c d3) = true, (!decide (m > 3)) = false, (!decide (m > 3)) = false, 0 ≤ d3, d3 < 65536, (!decide (m > 3)) = false, (!decide (m > 3)) = false, (!decide (m > 3)) = false, (!decide (m > 3)) = false, (!decide (m > 3)) = false, (!decide (m > 3)) = false]) := by kernel_rfl
theorem it3b (m a b c n k l s d0 d1 d2 d3 sg db : Int) : execA Tryz.prog sgF 300 75 l9 (stL 3 m a b c n k l s d0 d1 d2 d3 sg db) ⟨0, [(2, false), (3, false), (4, false), (5, false), (6, false), (7, false), (8, false), (9, false), (10, false)], []⟩ (fun x s α => some (x, fgt KP 75 s, α.ob)) = some (.normal, stL 4 m a b c n k l s d0 d1 d2 d3 sg db, [(if false = true then true else !rawB a b c d3) = false, (!decide (m > 3)) = false, (!decide (m > 3)) = false, 0 ≤ d3, d3 < 65536, (!decide (m > 3)) = false, (!decide (m > 3)) = false, (!decide (m > 3)) = false, (!decide (m > 3)) = false, (!decide (m > 3)) = false, (!decide (m > 3)) = false]) := by kernel_rfl
theorem it3c (m a b c n k l s d0 d1 d2 d3 sg db : Int) : execA Tryz.prog sgF 300 75 l9 (stL 3 m a b c n k l s d0 d1 d2 d3 sg db) ⟨0, [(2, true), (3, true), (4, true), (5, true), (6, true), (7, true), (8, true), (9, true)], []⟩ (fun x s α => some (x, fgt KP 75 s, α.ob)) = some (.normal, stL 4 m a b c n k l s d0 d1 d2 0 sg db, [(!decide (m > 3)) = true, (!decide (m > 3)) = true, (!decide (m > 3)) = true, (!decide (m > 3)) = true, (!decide (m > 3)) = true, (!decide (m > 3)) = true, (!decide (m > 3)) = true, (!decide (m > 3)) = true]) := by kernel_rfl
theorem it3 (m a b c n k l s d0 d1 d2 d3 sg db : Int) (h0 : 0 ≤ d3) (h1 : d3 < 65536) {Q : X → S → Prop} (hq : Q .normal (stL 4 m a b c n k l s d0 d1 d2 (kp a b c (decide (m > 3)) d3) sg db)) : Tr Tryz.prog 75 l9 (stL 3 m a b c n k l s d0 d1 d2 d3 sg db) Q := by
  cases h2 : decide (m > 3) with
  | false => rw [h2, kp_f] at hq; exact Tr.path fitF (it3c m a b c n k l s d0 d1 d2 d3 sg db) (by simp only [All, h2]; simp) hq
  | true =>
    rw [h2] at hq
    cases h3 : rawB a b c d3 with
    | false => rw [kp_0 h3] at hq; exact Tr.path fitF (it3a m a b c n k l s d0 d1 d2 d3 sg db) (by simp only [All, h2, h3]; simp [h0, h1]) hq
    | true => rw [kp_1 h3] at hq; exact Tr.path fitF (it3b m a b c n k l s d0 d1 d2 d3 sg db) (by simp only [All, h2, h3]; simp [h0, h1]) hq
theorem it4a (m a b c n k l s d0 d1 d2 d3 sg db : Int) : execA Tryz.prog sgF 300 75 l9 (stL 4 m a b c n k l s d0 d1 d2 d3 sg db) ⟨0, [(2, false), (3, false), (4, false), (5, false), (6, false), (7, false), (8, false), (9, false), (10, true)], []⟩ (fun x s α => some (x, fgt KP 75 s, α.ob)) = some (.normal, stL 5 m a b c n k l s d0 d1 d2 d3 0 db, [(if false = true then true else !rawB a b c sg) = true, (!decide (m > 4)) = false, (!decide (m > 4)) = false, 0 ≤ sg, sg < 65536, (!decide (m > 4)) = false, (!decide (m > 4)) = false, (!decide (m > 4)) = false, (!decide (m > 4)) = false, (!decide (m > 4)) = false, (!decide (m > 4)) = false]) := by kernel_rfl
theorem it4b (m a b c n k l s d0 d1 d2 d3 sg db : Int) : execA Tryz.prog sgF 300 75 l9 (stL 4 m a b c n k l s d0 d1 d2 d3 sg db) ⟨0, [(2, false), (3, false), (4, false), (5, false), (6, false), (7, false), (8, false), (9, false), (10, false)], []⟩ (fun x s α => some (x, fgt KP 75 s, α.ob)) = some (.normal, stL 5 m a b c n k l s d0 d1 d2 d3 sg db, [(if false = true then true else !rawB a b c sg) = false, (!decide (m > 4)) = false, (!decide (m > 4)) = false, 0 ≤ sg, sg < 65536, (!decide (m > 4)) = false, (!decide (m > 4)) = false, (!decide (m > 4)) = false, (!decide (m > 4)) = false, (!decide (m > 4)) = false, (!decide (m > 4)) = false]) := by kernel_rfl
theorem it4c (m a b c n k l s d0 d1 d2 d3 sg db : Int) : execA Tryz.prog sgF 300 75 l9 (stL 4 m a b c n k l s d0 d1 d2 d3 sg db) ⟨0, [(2, true), (3, true), (4, true), (5, true), (6, true), (7, true), (8, true), (9, true)], []⟩ (fun x s α => some (x, fgt KP 75 s, α.ob)) = some (.normal, stL 5 m a b c n k l s d0 d1 d2 d3 0 db, [(!decide (m > 4)) = true, (!decide (m > 4)) = true, (!decide (m > 4)) = true, (!decide (m > 4)) = true, (!decide (m > 4)) = true, (!decide (m > 4)) = true, (!decide (m > 4)) = true, (!decide (m > 4)) = true]) := by kernel_rfl
theorem it4 (m a b c n k l s d0 d1 d2 d3 sg db : Int) (h0 : 0 ≤ sg) (h1 : sg < 65536) {Q : X → S → Prop} (hq : Q .normal (stL 5 m a b c n k l s d0 d1 d2 d3 (kp a b c (decide (m > 4)) sg) db)) : Tr Tryz.prog 75 l9 (stL 4 m a b c n k l s d0 d1 d2 d3 sg db) Q := by
  cases h2 : decide (m > 4) with
  | false => rw [h2, kp_f] at hq; exact Tr.path fitF (it4c m a b c n k l s d0 d1 d2 d3 sg db) (by simp only [All, h2]; simp) hq
  | true =>
    rw [h2] at hq
    cases h3 : rawB a b c sg with
    | false => rw [kp_0 h3] at hq; exact Tr.path fitF (it4a m a b c n k l s d0 d1 d2 d3 sg db) (by simp only [All, h2, h3]; simp [h0, h1]) hq
    | true => rw [kp_1 h3] at hq; exact Tr.path fitF (it4b m a b c n k l s d0 d1 d2 d3 sg db) (by simp only [All, h2, h3]; simp [h0, h1]) hq
theorem it5a (m a b c n k l s d0 d1 d2 d3 sg db : Int) : execA Tryz.prog sgF 300 75 l9 (stL 5 m a b c n k l s d0 d1 d2 d3 sg db) ⟨0, [(2, false), (3, false), (4, false), (5, false), (6, false), (7, false), (8, false), (9, false), (10, true)], []⟩ (fun x s α => some (x, fgt KP 75 s, α.ob)) = some (.normal, stL 6 m a b c n k l s d0 d1 d2 d3 sg 0, [(if false = true then true else !rawB a b c db) = true, (!decide (m > 31)) = false, (!decide (m > 31)) = false, 0 ≤ db, db < 65536, (!decide (m > 31)) = false, (!decide (m > 31)) = false, (!decide (m > 31)) = false, (!decide (m > 31)) = false, (!decide (m > 31)) = false, (!decide (m > 31)) = false]) := by kernel_rfl
theorem it5b (m a b c n k l s d0 d1 d2 d3 sg db : Int) : execA Tryz.prog sgF 300 75 l9 (stL 5 m a b c n k l s d0 d1 d2 d3 sg db) ⟨0, [(2, false), (3, false), (4, false), (5, false), (6, false), (7, false), (8, false), (9, false), (10, false)], []⟩ (fun x s α => some (x, fgt KP 75 s, α.ob)) = some (.normal, stL 6 m a b c n k l s d0 d1 d2 d3 sg db, [(if false = true then true else !rawB a b c db) = false, (!decide (m > 31)) = false, (!decide (m > 31)) = false, 0 ≤ db, db < 65536, (!decide (m > 31)) = false, (!decide (m > 31)) = false, (!decide (m > 31)) = false, (!decide (m > 31)) = false, (!decide (m > 31)) = false, (!decide (m > 31)) = false]) := by kernel_rfl
theorem it5c (m a b c n k l s d0 d1 d2 d3 sg db : Int) : execA Tryz.prog sgF 300 75 l9 (stL 5 m a b c n k l s d0 d1 d2 d3 sg db) ⟨0, [(2, true), (3, true), (4, true), (5, true), (6, true), (7, true), (8, true), (9, true)], []⟩ (fun x s α => some (x, fgt KP 75 s, α.ob)) = some (.normal, stL 6 m a b c n k l s d0 d1 d2 d3 sg 0, [(!decide (m > 31)) = true, (!decide (m > 31)) = true, (!decide (m > 31)) = true, (!decide (m > 31)) = true, (!decide (m > 31)) = true, (!decide (m > 31)) = true, (!decide (m > 31)) = true, (!decide (m > 31)) = true]) := by kernel_rfl
theorem it5 (m a b c n k l s d0 d1 d2 d3 sg db : Int) (h0 : 0 ≤ db) (h1 : db < 65536) {Q : X → S → Prop} (hq : Q .normal (stL 6 m a b c n k l s d0 d1 d2 d3 sg (kp a b c (decide (m > 31)) db))) : Tr Tryz.prog 75 l9 (stL 5 m a b c n k l s d0 d1 d2 d3 sg db) Q := by
  cases h2 : decide (m > 31) with
  | false => rw [h2, kp_f] at hq; exact Tr.path fitF (it5c m a b c n k l s d0 d1 d2 d3 sg db) (by simp only [All, h2]; simp) hq
  | true =>
    rw [h2] at hq
    cases h3 : rawB a b c db with
    | false => rw [kp_0 h3] at hq; exact Tr.path fitF (it5a m a b c n k l s d0 d1 d2 d3 sg db) (by simp only [All, h2, h3]; simp [h0, h1]) hq
    | true => rw [kp_1 h3] at hq; exact Tr.path fitF (it5b m a b c n k l s d0 d1 d2 d3 sg db) (by simp only [All, h2, h3]; simp [h0, h1]) hq
theorem it6 (m a b c n k l s d0 d1 d2 d3 sg db : Int) : execA Tryz.prog sgF 300 75 l9 (stL 6 m a b c n k l s d0 d1 d2 d3 sg db) ⟨0, [], []⟩ (fun x s α => some (x, fgt KP 75 s, α.ob)) = some (.exit 0, stL 6 m a b c n k l s d0 d1 d2 d3 sg db, []) := by kernel_rfl
theorem lp6 (m a b c n k l s d0 d1 d2 d3 sg db : Int) {Q : X → S → Prop} (hq : Q (.exit 0) (stL 6 m a b c n k l s d0 d1 d2 d3 sg db)) : Tr Tryz.prog 75 (.loop l9) (stL 6 m a b c n k l s d0 d1 d2 d3 sg db) Q := by
  refine Tr.loop (Tr.path fitF (it6 m a b c n k l s d0 d1 d2 d3 sg db) trivial ?_)
  exact hq
theorem lp5 (m a b c n k l s d0 d1 d2 d3 sg db : Int) (p5 : 0 ≤ db ∧ db < 65536) {Q : X → S → Prop} (hq : Q (.exit 0) (stL 6 m a b c n k l s d0 d1 d2 d3 sg (kp a b c (decide (m > 31)) db))) : Tr Tryz.prog 75 (.loop l9) (stL 5 m a b c n k l s d0 d1 d2 d3 sg db) Q :=
  Tr.loop (it5 m a b c n k l s d0 d1 d2 d3 sg db p5.1 p5.2 (lp6 m a b c n k l s d0 d1 d2 d3 sg (kp a b c (decide (m > 31)) db)  hq))
theorem lp4 (m a b c n k l s d0 d1 d2 d3 sg db : Int) (p4 : 0 ≤ sg ∧ sg < 65536) (p5 : 0 ≤ db ∧ db < 65536) {Q : X → S → Prop} (hq : Q (.exit 0) (stL 6 m a b c n k l s d0 d1 d2 d3 (kp a b c (decide (m > 4)) sg) (kp a b c (decide (m > 31)) db))) : Tr Tryz.prog 75 (.loop l9) (stL 4 m a b c n k l s d0 d1 d2 d3 sg db) Q :=
  Tr.loop (it4 m a b c n k l s d0 d1 d2 d3 sg db p4.1 p4.2 (lp5 m a b c n k l s d0 d1 d2 d3 (kp a b c (decide (m > 4)) sg) db p5 hq))
theorem lp3 (m a b c n k l s d0 d1 d2 d3 sg db : Int) (p3 : 0 ≤ d3 ∧ d3 < 65536) (p4 : 0 ≤ sg ∧ sg < 65536) (p5 : 0 ≤ db ∧ db < 65536) {Q : X → S → Prop} (hq : Q (.exit 0) (stL 6 m a b c n k l s d0 d1 d2 (kp a b c (decide (m > 3)) d3) (kp a b c (decide (m > 4)) sg) (kp a b c (decide (m > 31)) db))) : Tr Tryz.prog 75 (.loop l9) (stL 3 m a b c n k l s d0 d1 d2 d3 sg db) Q :=
  Tr.loop (it3 m a b c n k l s d0 d1 d2 d3 sg db p3.1 p3.2 (lp4 m a b c n k l s d0 d1 d2 (kp a b c (decide (m > 3)) d3) sg db p4 p5 hq))
theorem lp2 (m a b c n k l s d0 d1 d2 d3 sg db : Int) (p2 : 0 ≤ d2 ∧ d2 < 65536) (p3 : 0 ≤ d3 ∧ d3 < 65536) (p4 : 0 ≤ sg ∧ sg < 65536) (p5 : 0 ≤ db ∧ db < 65536) {Q : X → S → Prop} (hq : Q (.exit 0) (stL 6 m a b c n k l s d0 d1 (kp a b c (decide (m > 2)) d2) (kp a b c (decide (m > 3)) d3) (kp a b c (decide (m > 4)) sg) (kp a b c (decide (m > 31)) db))) : Tr Tryz.prog 75 (.loop l9) (stL 2 m a b c n k l s d0 d1 d2 d3 sg db) Q :=
  Tr.loop (it2 m a b c n k l s d0 d1 d2 d3 sg db p2.1 p2.2 (lp3 m a b c n k l s d0 d1 (kp a b c (decide (m > 2)) d2) d3 sg db p3 p4 p5 hq))
theorem lp1 (m a b c n k l s d0 d1 d2 d3 sg db : Int) (p1 : 0 ≤ d1 ∧ d1 < 65536) (p2 : 0 ≤ d2 ∧ d2 < 65536) (p3 : 0 ≤ d3 ∧ d3 < 65536) (p4 : 0 ≤ sg ∧ sg < 65536) (p5 : 0 ≤ db ∧ db < 65536) {Q : X → S → Prop} (hq : Q (.exit 0) (stL 6 m a b c n k l s d0 (kp a b c (decide (m > 1)) d1) (kp a b c (decide (m > 2)) d2) (kp a b c (decide (m > 3)) d3) (kp a b c (decide (m > 4)) sg) (kp a b c (decide (m > 31)) db))) : Tr Tryz.prog 75 (.loop l9) (stL 1 m a b c n k l s d0 d1 d2 d3 sg db) Q :=
  Tr.loop (it1 m a b c n k l s d0 d1 d2 d3 sg db p1.1 p1.2 (lp2 m a b c n k l s d0 (kp a b c (decide (m > 1)) d1) d2 d3 sg db p2 p3 p4 p5 hq))
theorem lp0 (m a b c n k l s d0 d1 d2 d3 sg db : Int) (p0 : 0 ≤ d0 ∧ d0 < 65536) (p1 : 0 ≤ d1 ∧ d1 < 65536) (p2 : 0 ≤ d2 ∧ d2 < 65536) (p3 : 0 ≤ d3 ∧ d3 < 65536) (p4 : 0 ≤ sg ∧ sg < 65536) (p5 : 0 ≤ db ∧ db < 65536) {Q : X → S → Prop} (hq : Q (.exit 0) (stL 6 m a b c n k l s (kp a b c (decide (m > 0)) d0) (kp a b c (decide (m > 1)) d1) (kp a b c (decide (m > 2)) d2) (kp a b c (decide (m > 3)) d3) (kp a b c (decide (m > 4)) sg) (kp a b c (decide (m > 31)) db))) : Tr Tryz.prog 75 (.loop l9) (stL 0 m a b c n k l s d0 d1 d2 d3 sg db) Q :=
  Tr.loop (it0 m a b c n k l s d0 d1 d2 d3 sg db p0.1 p0.2 (lp1 m a b c n k l s (kp a b c (decide (m > 0)) d0) d1 d2 d3 sg db p1 p2 p3 p4 p5 hq))
end Go.Sx.Fi

namespace Go.Sx.Fi
open Go.Proofs Go.RowKit
set_option maxRecDepth 100000
noncomputable def arg9 (a b c n k l s d0 d1 d2 d3 sg db : Int) : List RV := [.one (.agg [.int .i64 a, .int .i64 b, .int .i64 c]), .one (.c (.int .i64 n)), .one (.agg [.int .u8 k, .int .u8 l, .int .u32 s, .int .u16 d0, .int .u16 d1, .int .u16 d2, .int .u16 d3, .int .u16 sg, .int .u16 db])]
noncomputable def sl9 (a b c n k l s d0 d1 d2 d3 sg db : Int) : T RV := match setArgs 75 (arg9 a b c n k l s d0 d1 d2 d3 sg db) 0 .nil some with | some t => t | none => .nil
theorem sl9_ok (a b c n k l s d0 d1 d2 d3 sg db : Int) : setArgs 75 (arg9 a b c n k l s d0 d1 d2 d3 sg db) 0 .nil some = some (sl9 a b c n k l s d0 d1 d2 d3 sg db) := by kernel_rfl
theorem pA (a b c n k l s d0 d1 d2 d3 sg db : Int) : execA Tryz.prog sgF 300 75 (cL c9) ⟨sl9 a b c n k l s d0 d1 d2 d3 sg db, .nil, 0, []⟩ ⟨0, [], []⟩ (fun x s α => some (x, fgt [1, 3, 5, 6] 75 s, α.ob)) = some (.normal, st1 a b c n k l s d0 d1 d2 d3 sg db, []) := by kernel_rfl
theorem pB0 (a b c n k l s d0 d1 d2 d3 sg db : Int) : execA Tryz.prog sgF 300 75 (cL (cR c9)) (st1 a b c n k l s d0 d1 d2 d3 sg db) ⟨0, [(0, true)], []⟩ (fun x s α => some (x, fgt [1, 3, 5, 6] 75 s, α.ob)) = some (.normal, st1 a b c n 0 0 0 0 0 0 0 0 0, [(errI (chk k l s d0 d1 d2 d3 sg db) != 0) = true, 0 ≤ k, 0 ≤ s]) := by kernel_rfl
theorem pB1 (a b c n k l s d0 d1 d2 d3 sg db : Int) : execA Tryz.prog sgF 300 75 (cL (cR c9)) (st1 a b c n k l s d0 d1 d2 d3 sg db) ⟨0, [(0, false)], []⟩ (fun x s α => some (x, fgt [1, 3, 5, 6] 75 s, α.ob)) = some (.normal, st1 a b c n k l s d0 d1 d2 d3 sg db, [(errI (chk k l s d0 d1 d2 d3 sg db) != 0) = false, 0 ≤ k, 0 ≤ s]) := by kernel_rfl
theorem pC (a b c n k l s d0 d1 d2 d3 sg db : Int) : execA Tryz.prog sgF 300 75 (cL (cR (cR c9))) (st1 a b c n k l s d0 d1 d2 d3 sg db) ⟨0, [], []⟩ (fun x s α => some (x, fgt [1, 3, 5, 6, 7] 75 s, α.ob)) = some (.normal, st2 (blk (IntKind.i64.wrap s)) a b c n k l s d0 d1 d2 d3 sg db, [0 ≤ IntKind.i64.wrap s, IntKind.i64.wrap s < 4294967296]) := by kernel_rfl
theorem pD (m a b c n k l s d0 d1 d2 d3 sg db : Int) : execA Tryz.prog sgF 300 75 (cL (cL (cR (cR (cR c9))))) (st2 m a b c n k l s d0 d1 d2 d3 sg db) ⟨0, [], []⟩ (fun x s α => some (x, fgt KP 75 s, α.ob)) = some (.normal, stL 0 m a b c n k l s d0 d1 d2 d3 sg db, []) := by kernel_rfl
noncomputable def shpE (m a b c k l s d0 d1 d2 d3 sg db : Int) (r : List Cell) : T Blk := ofL ([(0, .row 62 false none (.cells [.int .i64 a, .int .i64 b, .int .i64 c])), (1, .row 27 false none (.cells [.int .u8 k, .int .u8 l, .int .u32 s, .int .u16 d0, .int .u16 d1, .int .u16 d2, .int .u16 d3, .int .u16 sg, .int .u16 db])),
  (2, .row 27 false none (.cells r))] ++ bxs m 6)
noncomputable def stE (m a b c k l s d0 d1 d2 d3 sg db : Int) (r : List Cell) : S := fgt [6] 75 ⟨ofL [(6, .one (.c (.ptr 2 0)))], shpE m a b c k l s d0 d1 d2 d3 sg db r, 9, []⟩
def inoL (k l s d0 d1 d2 d3 sg db : Int) : List Cell := [.int .u8 k, .int .u8 l, .int .u32 s, .int .u16 d0, .int .u16 d1, .int .u16 d2, .int .u16 d3, .int .u16 sg, .int .u16 db]
noncomputable def e9 : Code := cR (cR (cR (cR c9)))
theorem pE1 (m a b c n k l s d0 d1 d2 d3 sg db : Int) : execA Tryz.prog sgF 300 75 e9 (stL 6 m a b c n k l s d0 d1 d2 d3 sg db) ⟨0, [(0, true), (1, true), (2, true), (3, true), (4, true)], []⟩ (fun x s α => some (x, fgt [6] 75 s, α.ob))
  = some (.ret, stE m a b c k l s d0 d1 d2 d3 sg db (inoL 2 1 0 0 0 0 0 0 0), [(if true = true then k != 2 else false) = true, (n == 1) = true, (n == 1) = true, (n == 1) = true, (n == 1) = true]) := by kernel_rfl
theorem pE2 (m a b c n k l s d0 d1 d2 d3 sg db : Int) : execA Tryz.prog sgF 300 75 e9 (stL 6 m a b c n k l s d0 d1 d2 d3 sg db) ⟨0, [(0, true), (1, true), (2, true), (3, true), (4, false)], []⟩ (fun x s α => some (x, fgt [6] 75 s, α.ob))
  = some (.ret, stE m a b c k l s d0 d1 d2 d3 sg db (inoL k l s d0 d1 d2 d3 sg db), [(if true = true then k != 2 else false) = false, (n == 1) = true, (n == 1) = true, (n == 1) = true, (n == 1) = true]) := by kernel_rfl
theorem pE3 (m a b c n k l s d0 d1 d2 d3 sg db : Int) : execA Tryz.prog sgF 300 75 e9 (stL 6 m a b c n k l s d0 d1 d2 d3 sg db) ⟨0, [(0, false), (1, false), (2, false), (3, false)], []⟩ (fun x s α => some (x, fgt [6] 75 s, α.ob))
  = some (.ret, stE m a b c k l s d0 d1 d2 d3 sg db (inoL k l s d0 d1 d2 d3 sg db), [(n == 1) = false, (n == 1) = false, (n == 1) = false, (n == 1) = false]) := by kernel_rfl
theorem pR (m a b c k l s d0 d1 d2 d3 sg db x1 x2 x3 x4 x5 x6 x7 x8 x9 : Int) : resOf Tryz.prog 75 (stE m a b c k l s d0 d1 d2 d3 sg db (inoL x1 x2 x3 x4 x5 x6 x7 x8 x9)) Tryz.f75.results.toList = some [.agg (inoL x1 x2 x3 x4 x5 x6 x7 x8 x9)] := by kernel_rfl
/-- what should be, cell by cell -/
def fin9 (n k l s d0 d1 d2 d3 sg db : Int) : List Cell := if n = 1 ∧ k ≠ 2 then inoL 2 1 0 0 0 0 0 0 0 else inoL k l s d0 d1 d2 d3 sg db
def mid9 (a b c n k l s d0 d1 d2 d3 sg db : Int) : List Cell :=
  fin9 n k l s (kp a b c (decide (blk s > 0)) d0) (kp a b c (decide (blk s > 1)) d1) (kp a b c (decide (blk s > 2)) d2) (kp a b c (decide (blk s > 3)) d3) (kp a b c (decide (blk s > 4)) sg) (kp a b c (decide (blk s > 31)) db)
def should (a b c n k l s d0 d1 d2 d3 sg db : Int) : List Cell :=
  if chk k l s d0 d1 d2 d3 sg db then mid9 a b c n k l s d0 d1 d2 d3 sg db else mid9 a b c n 0 0 0 0 0 0 0 0 0
abbrev Ret9 (r : List Cell) : X → S → Prop := fun x s1 => (x = .normal ∨ x = .ret) ∧ ∃ l, resOf Tryz.prog 75 s1 Tryz.f75.results.toList = some l ∧ resRV l = .one (.agg r)
theorem end9 (m a b c n k l s d0 d1 d2 d3 sg db : Int) : Tr Tryz.prog 75 e9 (stL 6 m a b c n k l s d0 d1 d2 d3 sg db) (Ret9 (fin9 n k l s d0 d1 d2 d3 sg db)) := by
  cases h1 : (n == 1) with
  | false =>
    refine Tr.path fitF (pE3 m a b c n k l s d0 d1 d2 d3 sg db) (by simp only [All, h1]; simp) ⟨.inr rfl, _, pR _ _ _ _ _ _ _ _ _ _ _ _ _ _ _ _ _ _ _ _ _ _, ?_⟩
    simp at h1
    rw [fin9, if_neg (fun h => h1 h.1)]; rfl
  | true =>
    cases h2 : (k != 2) with
    | false =>
      refine Tr.path fitF (pE2 m a b c n k l s d0 d1 d2 d3 sg db) (by simp only [All, h1, h2]; simp) ⟨.inr rfl, _, pR _ _ _ _ _ _ _ _ _ _ _ _ _ _ _ _ _ _ _ _ _ _, ?_⟩
      simp at h2
      rw [fin9, if_neg (fun h => h.2 h2)]; rfl
    | true =>
      refine Tr.path fitF (pE1 m a b c n k l s d0 d1 d2 d3 sg db) (by simp only [All, h1, h2]; simp) ⟨.inr rfl, _, pR _ _ _ _ _ _ _ _ _ _ _ _ _ _ _ _ _ _ _ _ _ _, ?_⟩
      simp at h1 h2
      rw [fin9, if_pos ⟨h1, h2⟩]; rfl
theorem wrap_u32 {s : Int} (h : 0 ≤ s) (h1 : s < 4294967296) : IntKind.i64.wrap s = s := by
  have := @IntWalk.i64_in
  exact this _ (by omega)
abbrev U16 (x : Int) : Prop := 0 ≤ x ∧ x < 65536
theorem tail9 (a b c n k l s d0 d1 d2 d3 sg db : Int) (hs : 0 ≤ s) (hs1 : s < 4294967296) (p0 : U16 d0) (p1 : U16 d1) (p2 : U16 d2) (p3 : U16 d3) (p4 : U16 sg) (p5 : U16 db) :
    Tr Tryz.prog 75 (cR (cR c9)) (st1 a b c n k l s d0 d1 d2 d3 sg db) (Ret9 (mid9 a b c n k l s d0 d1 d2 d3 sg db)) := by
  have hw := wrap_u32 hs hs1
  have hC := pC a b c n k l s d0 d1 d2 d3 sg db
  rw [hw] at hC
  refine Tr.seq (c := cL (cR (cR c9))) (d := cR (cR (cR c9))) (Tr.path fitF hC ⟨hs, hs1, trivial⟩ ?_)
  refine Tr.seq (c := cL (cR (cR (cR c9)))) (d := e9) ?_
  refine Tr.seq (c := cL (cL (cR (cR (cR c9))))) (d := .block 0 (.loop l9)) (Tr.path fitF (pD (blk s) a b c n k l s d0 d1 d2 d3 sg db) trivial ?_)
  refine Tr.block (lp0 (blk s) a b c n k l s d0 d1 d2 d3 sg db p0 p1 p2 p3 p4 p5 ?_)
  exact end9 _ _ _ _ _ _ _ _ _ _ _ _ _ _
theorem errI_ne (b : Bool) : (errI b != 0) = !b := by cases b <;> simp [errI_true, errI_false]
theorem u0 : U16 0 := ⟨by omega, by omega⟩
theorem body9 (a b c n k l s d0 d1 d2 d3 sg db : Int) (hk : 0 ≤ k) (hs : 0 ≤ s) (hs1 : s < 4294967296) (p0 : U16 d0) (p1 : U16 d1) (p2 : U16 d2) (p3 : U16 d3) (p4 : U16 sg) (p5 : U16 db) :
    Tr Tryz.prog 75 c9 ⟨sl9 a b c n k l s d0 d1 d2 d3 sg db, .nil, 0, []⟩ (Ret9 (should a b c n k l s d0 d1 d2 d3 sg db)) := by
  refine Tr.seq (c := cL c9) (d := cR c9) (Tr.path fitF (pA a b c n k l s d0 d1 d2 d3 sg db) trivial ?_)
  refine Tr.seq (c := cL (cR c9)) (d := cR (cR c9)) ?_
  cases h : chk k l s d0 d1 d2 d3 sg db with
  | false =>
    refine Tr.path fitF (pB0 a b c n k l s d0 d1 d2 d3 sg db) ⟨by rw [errI_ne, h]; rfl, hk, hs, trivial⟩ ?_
    rw [should, h]
    exact tail9 a b c n 0 0 0 0 0 0 0 0 0 (by omega) (by omega) u0 u0 u0 u0 u0 u0
  | true =>
    refine Tr.path fitF (pB1 a b c n k l s d0 d1 d2 d3 sg db) ⟨by rw [errI_ne, h]; rfl, hk, hs, trivial⟩ ?_
    rw [should, h]
    exact tail9 a b c n k l s d0 d1 d2 d3 sg db hs hs1 p0 p1 p2 p3 p4 p5
end Go.Sx.Fi

namespace Go.Sx.Fi
open Go.Proofs Go.RowKit
set_option maxRecDepth 100000
noncomputable def c10 : Code := body 94
noncomputable def rest10 : Code := cR (cR (cR c10))
noncomputable def thn10 : Code := cL (cR (cL rest10))
noncomputable def l10 : Code := cL (cL (cR (cL (cR thn10))))
noncomputable def xhp (a b c k l s d0 d1 d2 d3 sg db : Int) : T Blk := ofL [(0, .row 62 false none (.cells [.int .i64 a, .int .i64 b, .int .i64 c])), (1, .row 27 false none (.cells (inoL k l s d0 d1 d2 d3 sg db))),
  (2, .row 27 false none (.cells (inoL 0 0 0 0 0 0 0 0 0)))]
noncomputable def yhp (a b c k l s d0 d1 d2 d3 sg db y1 y2 y3 y4 y5 y6 y7 y8 y9 : Int) (r : List Cell) : T Blk := ofL [(0, .row 62 false none (.cells [.int .i64 a, .int .i64 b, .int .i64 c])), (1, .row 27 false none (.cells (inoL k l s d0 d1 d2 d3 sg db))),
  (2, .row 27 false none (.cells r)), (3, .row 27 false none (.cells (inoL y1 y2 y3 y4 y5 y6 y7 y8 y9)))]
noncomputable def ysl (n : Int) (r : List (Nat × RV)) : T RV := ofL ([(1, .one (.c (.int .i64 n))), (3, .one (.c (.ptr 0 0))), (6, .one (.c (.ptr 2 0)))] ++ r)
abbrev Z9 : List Cell := inoL 0 0 0 0 0 0 0 0 0
abbrev KX : List Nat := [1, 3, 5, 6]
abbrev KY : List Nat := [1, 3, 6, 7]
abbrev KM : List Nat := [1, 3, 6, 7, 8]
abbrev KL : List Nat := [1, 3, 6, 7, 8, 9]
noncomputable def sX (a b c n k l s d0 d1 d2 d3 sg db : Int) : S := fgt KX 73 ⟨ysl n [(5, .one (.c (.ptr 1 0)))], xhp a b c k l s d0 d1 d2 d3 sg db, 3, []⟩
noncomputable def sY (a b c n k l s d0 d1 d2 d3 sg db y1 y2 y3 y4 y5 y6 y7 y8 y9 : Int) : S := fgt KY 73 ⟨ysl n [(7, .one (.c (.ptr 3 0)))], yhp a b c k l s d0 d1 d2 d3 sg db y1 y2 y3 y4 y5 y6 y7 y8 y9 Z9, 4, []⟩
noncomputable def sM (m a b c n k l s d0 d1 d2 d3 sg db y1 y2 y3 y4 y5 y6 y7 y8 y9 : Int) : S := fgt KM 73 ⟨ysl n [(7, .one (.c (.ptr 3 0))), (8, .one (.c (.int .i64 m)))], yhp a b c k l s d0 d1 d2 d3 sg db y1 y2 y3 y4 y5 y6 y7 y8 y9 Z9, 4, []⟩
noncomputable def sL (j : Nat) (m a b c n k l s d0 d1 d2 d3 sg db y1 y2 y3 y4 y5 y6 y7 y8 y9 : Int) : S := fgt KL 73 ⟨ysl n [(7, .one (.c (.ptr 3 0))), (8, .one (.c (.int .i64 m))), (9, .one (.c (.int .i64 j)))], yhp a b c k l s d0 d1 d2 d3 sg db y1 y2 y3 y4 y5 y6 y7 y8 y9 Z9, 4, []⟩
noncomputable def sE (a b c k l s d0 d1 d2 d3 sg db y1 y2 y3 y4 y5 y6 y7 y8 y9 : Int) (r : List Cell) : S := fgt [6] 73 ⟨ofL [(6, .one (.c (.ptr 2 0)))], yhp a b c k l s d0 d1 d2 d3 sg db y1 y2 y3 y4 y5 y6 y7 y8 y9 r, 4, []⟩
theorem wrap_u16 {s : Int} (h : U16 s) : IntKind.i64.wrap s = s := IntWalk.i64_in _ (by have := h.1; have := h.2; omega)
theorem r0a (m a b c n k l s d0 d1 d2 d3 sg db y1 y2 y3 y4 y5 y6 y7 y8 y9 : Int) : execA Tryz.prog sgF 300 73 l10 (sL 0 m a b c n k l s d0 d1 d2 d3 sg db y1 y2 y3 y4 y5 y6 y7 y8 y9) ⟨0, [(1, false), (2, false), (3, false), (4, false), (6, false), (7, false), (8, false), (9, false), (10, false), (11, true)], []⟩ (fun x s α => some (x, fgt KL 73 s, α.ob)) = some (.normal, sL 1 m a b c n k l s d0 d1 d2 d3 sg db y1 y2 y3 0 y5 y6 y7 y8 y9, [(if false = true then true else !rawB a b c (IntKind.i64.wrap y4)) = true, decide (0 ≥ m) = false, decide (0 ≥ m) = false, decide (0 ≥ m) = false, decide (0 ≥ m) = false, decide (0 ≥ m) = false, decide (0 ≥ m) = false, decide (0 ≥ m) = false, decide (0 ≥ m) = false, decide (0 ≥ m) = false]) := by kernel_rfl
theorem r0b (m a b c n k l s d0 d1 d2 d3 sg db y1 y2 y3 y4 y5 y6 y7 y8 y9 : Int) : execA Tryz.prog sgF 300 73 l10 (sL 0 m a b c n k l s d0 d1 d2 d3 sg db y1 y2 y3 y4 y5 y6 y7 y8 y9) ⟨0, [(1, false), (2, false), (3, false), (4, false), (6, false), (7, false), (8, false), (9, false), (10, false), (11, false)], []⟩ (fun x s α => some (x, fgt KL 73 s, α.ob)) = some (.normal, sL 1 m a b c n k l s d0 d1 d2 d3 sg db y1 y2 y3 y4 y5 y6 y7 y8 y9, [(if false = true then true else !rawB a b c (IntKind.i64.wrap y4)) = false, decide (0 ≥ m) = false, decide (0 ≥ m) = false, decide (0 ≥ m) = false, decide (0 ≥ m) = false, decide (0 ≥ m) = false, decide (0 ≥ m) = false, decide (0 ≥ m) = false, decide (0 ≥ m) = false, decide (0 ≥ m) = false]) := by kernel_rfl
theorem r0c (m a b c n k l s d0 d1 d2 d3 sg db y1 y2 y3 y4 y5 y6 y7 y8 y9 : Int) : execA Tryz.prog sgF 300 73 l10 (sL 0 m a b c n k l s d0 d1 d2 d3 sg db y1 y2 y3 y4 y5 y6 y7 y8 y9) ⟨0, [(1, true), (2, true), (3, true), (4, true), (5, true), (6, true), (7, true), (8, true), (9, true)], []⟩ (fun x s α => some (x, fgt KL 73 s, α.ob)) = some (.normal, sL 1 m a b c n k l s d0 d1 d2 d3 sg db y1 y2 y3 0 y5 y6 y7 y8 y9, [decide (0 ≥ m) = true, decide (0 ≥ m) = true, decide (0 ≥ m) = true, decide (0 ≥ m) = true, decide (0 ≥ m) = true, decide (0 ≥ m) = true, decide (0 ≥ m) = true, decide (0 ≥ m) = true, decide (0 ≥ m) = true]) := by kernel_rfl
theorem r0 (m a b c n k l s d0 d1 d2 d3 sg db y1 y2 y3 y4 y5 y6 y7 y8 y9 : Int) (h : U16 y4) {Q : X → S → Prop} (hq : Q .normal (sL 1 m a b c n k l s d0 d1 d2 d3 sg db y1 y2 y3 (kp a b c (decide (m > 0)) y4) y5 y6 y7 y8 y9)) : Tr Tryz.prog 73 l10 (sL 0 m a b c n k l s d0 d1 d2 d3 sg db y1 y2 y3 y4 y5 y6 y7 y8 y9) Q := by
  cases h2 : decide (0 ≥ m) with
  | true => rw [show decide (m > 0) = false by simp at h2 ⊢; omega, kp_f] at hq; exact Tr.path fitF (r0c m a b c n k l s d0 d1 d2 d3 sg db y1 y2 y3 y4 y5 y6 y7 y8 y9) (by simp only [All, h2]; simp) hq
  | false =>
    rw [show decide (m > 0) = true by simp at h2 ⊢; omega] at hq
    cases h3 : rawB a b c y4 with
    | false => rw [kp_0 h3] at hq; exact Tr.path fitF (r0a m a b c n k l s d0 d1 d2 d3 sg db y1 y2 y3 y4 y5 y6 y7 y8 y9) (by simp only [All, h2, wrap_u16 h, h3]; simp) hq
    | true => rw [kp_1 h3] at hq; exact Tr.path fitF (r0b m a b c n k l s d0 d1 d2 d3 sg db y1 y2 y3 y4 y5 y6 y7 y8 y9) (by simp only [All, h2, wrap_u16 h, h3]; simp) hq
theorem r1a (m a b c n k l s d0 d1 d2 d3 sg db y1 y2 y3 y4 y5 y6 y7 y8 y9 : Int) : execA Tryz.prog sgF 300 73 l10 (sL 1 m a b c n k l s d0 d1 d2 d3 sg db y1 y2 y3 y4 y5 y6 y7 y8 y9) ⟨0, [(1, false), (2, false), (3, false), (4, false), (6, false), (7, false), (8, false), (9, false), (10, false), (11, true)], []⟩ (fun x s α => some (x, fgt KL 73 s, α.ob)) = some (.normal, sL 2 m a b c n k l s d0 d1 d2 d3 sg db y1 y2 y3 y4 0 y6 y7 y8 y9, [(if false = true then true else !rawB a b c (IntKind.i64.wrap y5)) = true, decide (1 ≥ m) = false, decide (1 ≥ m) = false, decide (1 ≥ m) = false, decide (1 ≥ m) = false, decide (1 ≥ m) = false, decide (1 ≥ m) = false, decide (1 ≥ m) = false, decide (1 ≥ m) = false, decide (1 ≥ m) = false]) := by kernel_rfl
theorem r1b (m a b c n k l s d0 d1 d2 d3 sg db y1 y2 y3 y4 y5 y6 y7 y8 y9 : Int) : execA Tryz.prog sgF 300 73 l10 (sL 1 m a b c n k l s d0 d1 d2 d3 sg db y1 y2 y3 y4 y5 y6 y7 y8 y9) ⟨0, [(1, false), (2, false), (3, false), (4, false), (6, false), (7, false), (8, false), (9, false), (10, false), (11, false)], []⟩ (fun x s α => some (x, fgt KL 73 s, α.ob)) = some (.normal, sL 2 m a b c n k l s d0 d1 d2 d3 sg db y1 y2 y3 y4 y5 y6 y7 y8 y9, [(if false = true then true else !rawB a b c (IntKind.i64.wrap y5)) = false, decide (1 ≥ m) = false, decide (1 ≥ m) = false, decide (1 ≥ m) = false, decide (1 ≥ m) = false, decide (1 ≥ m) = false, decide (1 ≥ m) = false, decide (1 ≥ m) = false, decide (1 ≥ m) = false, decide (1 ≥ m) = false]) := by kernel_rfl
theorem r1c (m a b c n k l s d0 d1 d2 d3 sg db y1 y2 y3 y4 y5 y6 y7 y8 y9 : Int) : execA Tryz.prog sgF 300 73 l10 (sL 1 m a b c n k l s d0 d1 d2 d3 sg db y1 y2 y3 y4 y5 y6 y7 y8 y9) ⟨0, [(1, true), (2, true), (3, true), (4, true), (5, true), (6, true), (7, true), (8, true), (9, true)], []⟩ (fun x s α => some (x, fgt KL 73 s, α.ob)) = some (.normal, sL 2 m a b c n k l s d0 d1 d2 d3 sg db y1 y2 y3 y4 0 y6 y7 y8 y9, [decide (1 ≥ m) = true, decide (1 ≥ m) = true, decide (1 ≥ m) = true, decide (1 ≥ m) = true, decide (1 ≥ m) = true, decide (1 ≥ m) = true, decide (1 ≥ m) = true, decide (1 ≥ m) = true, decide (1 ≥ m) = true]) := by kernel_rfl
theorem r1 (m a b c n k l s d0 d1 d2 d3 sg db y1 y2 y3 y4 y5 y6 y7 y8 y9 : Int) (h : U16 y5) {Q : X → S → Prop} (hq : Q .normal (sL 2 m a b c n k l s d0 d1 d2 d3 sg db y1 y2 y3 y4 (kp a b c (decide (m > 1)) y5) y6 y7 y8 y9)) : Tr Tryz.prog 73 l10 (sL 1 m a b c n k l s d0 d1 d2 d3 sg db y1 y2 y3 y4 y5 y6 y7 y8 y9) Q := by
  cases h2 : decide (1 ≥ m) with
  | true => rw [show decide (m > 1) = false by simp at h2 ⊢; omega, kp_f] at hq; exact Tr.path fitF (r1c m a b c n k l s d0 d1 d2 d3 sg db y1 y2 y3 y4 y5 y6 y7 y8 y9) (by simp only [All, h2]; simp) hq
  | false =>
    rw [show decide (m > 1) = true by simp at h2 ⊢; omega] at hq
    cases h3 : rawB a b c y5 with
    | false => rw [kp_0 h3] at hq; exact Tr.path fitF (r1a m a b c n k l s d0 d1 d2 d3 sg db y1 y2 y3 y4 y5 y6 y7 y8 y9) (by simp only [All, h2, wrap_u16 h, h3]; simp) hq
    | true => rw [kp_1 h3] at hq; exact Tr.path fitF (r1b m a b c n k l s d0 d1 d2 d3 sg db y1 y2 y3 y4 y5 y6 y7 y8 y9) (by simp only [All, h2, wrap_u16 h, h3]; simp) hq
theorem r2a (m a b c n k l s d0 d1 d2 d3 sg db y1 y2 y3 y4 y5 y6 y7 y8 y9 : Int) : execA Tryz.prog sgF 300 73 l10 (sL 2 m a b c n k l s d0 d1 d2 d3 sg db y1 y2 y3 y4 y5 y6 y7 y8 y9) ⟨0, [(1, false), (2, false), (3, false), (4, false), (6, false), (7, false), (8, false), (9, false), (10, false), (11, true)], []⟩ (fun x s α => some (x, fgt KL 73 s, α.ob)) = some (.normal, sL 3 m a b c n k l s d0 d1 d2 d3 sg db y1 y2 y3 y4 y5 0 y7 y8 y9, [(if false = true then true else !rawB a b c (IntKind.i64.wrap y6)) = true, decide (2 ≥ m) = false, decide (2 ≥ m) = false, decide (2 ≥ m) = false, decide (2 ≥ m) = false, decide (2 ≥ m) = false, decide (2 ≥ m) = false, decide (2 ≥ m) = false, decide (2 ≥ m) = false, decide (2 ≥ m) = false]) := by kernel_rfl
theorem r2b (m a b c n k l s d0 d1 d2 d3 sg db y1 y2 y3 y4 y5 y6 y7 y8 y9 : Int) : execA Tryz.prog sgF 300 73 l10 (sL 2 m a b c n k l s d0 d1 d2 d3 sg db y1 y2 y3 y4 y5 y6 y7 y8 y9) ⟨0, [(1, false), (2, false), (3, false), (4, false), (6, false), (7, false), (8, false), (9, false), (10, false), (11, false)], []⟩ (fun x s α => some (x, fgt KL 73 s, α.ob)) = some (.normal, sL 3 m a b c n k l s d0 d1 d2 d3 sg db y1 y2 y3 y4 y5 y6 y7 y8 y9, [(if false = true then true else !rawB a b c (IntKind.i64.wrap y6)) = false, decide (2 ≥ m) = false, decide (2 ≥ m) = false, decide (2 ≥ m) = false, decide (2 ≥ m) = false, decide (2 ≥ m) = false, decide (2 ≥ m) = false, decide (2 ≥ m) = false, decide (2 ≥ m) = false, decide (2 ≥ m) = false]) := by kernel_rfl
theorem r2c (m a b c n k l s d0 d1 d2 d3 sg db y1 y2 y3 y4 y5 y6 y7 y8 y9 : Int) : execA Tryz.prog sgF 300 73 l10 (sL 2 m a b c n k l s d0 d1 d2 d3 sg db y1 y2 y3 y4 y5 y6 y7 y8 y9) ⟨0, [(1, true), (2, true), (3, true), (4, true), (5, true), (6, true), (7, true), (8, true), (9, true)], []⟩ (fun x s α => some (x, fgt KL 73 s, α.ob)) = some (.normal, sL 3 m a b c n k l s d0 d1 d2 d3 sg db y1 y2 y3 y4 y5 0 y7 y8 y9, [decide (2 ≥ m) = true, decide (2 ≥ m) = true, decide (2 ≥ m) = true, decide (2 ≥ m) = true, decide (2 ≥ m) = true, decide (2 ≥ m) = true, decide (2 ≥ m) = true, decide (2 ≥ m) = true, decide (2 ≥ m) = true]) := by kernel_rfl
theorem r2 (m a b c n k l s d0 d1 d2 d3 sg db y1 y2 y3 y4 y5 y6 y7 y8 y9 : Int) (h : U16 y6) {Q : X → S → Prop} (hq : Q .normal (sL 3 m a b c n k l s d0 d1 d2 d3 sg db y1 y2 y3 y4 y5 (kp a b c (decide (m > 2)) y6) y7 y8 y9)) : Tr Tryz.prog 73 l10 (sL 2 m a b c n k l s d0 d1 d2 d3 sg db y1 y2 y3 y4 y5 y6 y7 y8 y9) Q := by
  cases h2 : decide (2 ≥ m) with
  | true => rw [show decide (m > 2) = false by simp at h2 ⊢; omega, kp_f] at hq; exact Tr.path fitF (r2c m a b c n k l s d0 d1 d2 d3 sg db y1 y2 y3 y4 y5 y6 y7 y8 y9) (by simp only [All, h2]; simp) hq
  | false =>
    rw [show decide (m > 2) = true by simp at h2 ⊢; omega] at hq
    cases h3 : rawB a b c y6 with
    | false => rw [kp_0 h3] at hq; exact Tr.path fitF (r2a m a b c n k l s d0 d1 d2 d3 sg db y1 y2 y3 y4 y5 y6 y7 y8 y9) (by simp only [All, h2, wrap_u16 h, h3]; simp) hq
    | true => rw [kp_1 h3] at hq; exact Tr.path fitF (r2b m a b c n k l s d0 d1 d2 d3 sg db y1 y2 y3 y4 y5 y6 y7 y8 y9) (by simp only [All, h2, wrap_u16 h, h3]; simp) hq
theorem r3a (m a b c n k l s d0 d1 d2 d3 sg db y1 y2 y3 y4 y5 y6 y7 y8 y9 : Int) : execA Tryz.prog sgF 300 73 l10 (sL 3 m a b c n k l s d0 d1 d2 d3 sg db y1 y2 y3 y4 y5 y6 y7 y8 y9) ⟨0, [(1, false), (2, false), (3, false), (4, false), (6, false), (7, false), (8, false), (9, false), (10, false), (11, true)], []⟩ (fun x s α => some (x, fgt KL 73 s, α.ob)) = some (.normal, sL 4 m a b c n k l s d0 d1 d2 d3 sg db y1 y2 y3 y4 y5 y6 0 y8 y9, [(if false = true then true else !rawB a b c (IntKind.i64.wrap y7)) = true, decide (3 ≥ m) = false, decide (3 ≥ m) = false, decide (3 ≥ m) = false, decide (3 ≥ m) = false, decide (3 ≥ m) = false, decide (3 ≥ m) = false, decide (3 ≥ m) = false, decide (3 ≥ m) = false, decide (3 ≥ m) = false]) := by kernel_rfl
theorem r3b (m a b c n k l s d0 d1 d2 d3 sg db y1 y2 y3 y4 y5 y6 y7 y8 y9 : Int) : execA Tryz.prog sgF 300 73 l10 (sL 3 m a b c n k l s d0 d1 d2 d3 sg db y1 y2 y3 y4 y5 y6 y7 y8 y9) ⟨0, [(1, false), (2, false), (3, false), (4, false), (6, false), (7, false), (8, false), (9, false), (10, false), (11, false)], []⟩ (fun x s α => some (x, fgt KL 73 s, α.ob)) = some (.normal, sL 4 m a b c n k l s d0 d1 d2 d3 sg db y1 y2 y3 y4 y5 y6 y7 y8 y9, [(if false = true then true else !rawB a b c (IntKind.i64.wrap y7)) = false, decide (3 ≥ m) = false, decide (3 ≥ m) = false, decide (3 ≥ m) = false, decide (3 ≥ m) = false, decide (3 ≥ m) = false, decide (3 ≥ m) = false, decide (3 ≥ m) = false, decide (3 ≥ m) = false, decide (3 ≥ m) = false]) := by kernel_rfl
theorem r3c (m a b c n k l s d0 d1 d2 d3 sg db y1 y2 y3 y4 y5 y6 y7 y8 y9 : Int) : execA Tryz.prog sgF 300 73 l10 (sL 3 m a b c n k l s d0 d1 d2 d3 sg db y1 y2 y3 y4 y5 y6 y7 y8 y9) ⟨0, [(1, true), (2, true), (3, true), (4, true), (5, true), (6, true), (7, true), (8, true), (9, true)], []⟩ (fun x s α => some (x, fgt KL 73 s, α.ob)) = some (.normal, sL 4 m a b c n k l s d0 d1 d2 d3 sg db y1 y2 y3 y4 y5 y6 0 y8 y9, [decide (3 ≥ m) = true, decide (3 ≥ m) = true, decide (3 ≥ m) = true, decide (3 ≥ m) = true, decide (3 ≥ m) = true, decide (3 ≥ m) = true, decide (3 ≥ m) = true, decide (3 ≥ m) = true, decide (3 ≥ m) = true]) := by kernel_rfl
theorem r3 (m a b c n k l s d0 d1 d2 d3 sg db y1 y2 y3 y4 y5 y6 y7 y8 y9 : Int) (h : U16 y7) {Q : X → S → Prop} (hq : Q .normal (sL 4 m a b c n k l s d0 d1 d2 d3 sg db y1 y2 y3 y4 y5 y6 (kp a b c (decide (m > 3)) y7) y8 y9)) : Tr Tryz.prog 73 l10 (sL 3 m a b c n k l s d0 d1 d2 d3 sg db y1 y2 y3 y4 y5 y6 y7 y8 y9) Q := by
  cases h2 : decide (3 ≥ m) with
  | true => rw [show decide (m > 3) = false by simp at h2 ⊢; omega, kp_f] at hq; exact Tr.path fitF (r3c m a b c n k l s d0 d1 d2 d3 sg db y1 y2 y3 y4 y5 y6 y7 y8 y9) (by simp only [All, h2]; simp) hq
  | false =>
    rw [show decide (m > 3) = true by simp at h2 ⊢; omega] at hq
    cases h3 : rawB a b c y7 with
    | false => rw [kp_0 h3] at hq; exact Tr.path fitF (r3a m a b c n k l s d0 d1 d2 d3 sg db y1 y2 y3 y4 y5 y6 y7 y8 y9) (by simp only [All, h2, wrap_u16 h, h3]; simp) hq
    | true => rw [kp_1 h3] at hq; exact Tr.path fitF (r3b m a b c n k l s d0 d1 d2 d3 sg db y1 y2 y3 y4 y5 y6 y7 y8 y9) (by simp only [All, h2, wrap_u16 h, h3]; simp) hq
theorem r4a (m a b c n k l s d0 d1 d2 d3 sg db y1 y2 y3 y4 y5 y6 y7 y8 y9 : Int) : execA Tryz.prog sgF 300 73 (cL (cR (cR thn10))) (sM m a b c n k l s d0 d1 d2 d3 sg db y1 y2 y3 y4 y5 y6 y7 y8 y9) ⟨0, [(0, false), (1, false), (2, false), (3, false), (4, false), (5, false), (6, false), (7, true)], []⟩ (fun x s α => some (x, fgt KM 73 s, α.ob)) = some (.normal, sM m a b c n k l s d0 d1 d2 d3 sg db y1 y2 y3 y4 y5 y6 y7 0 y9, [(if false = true then true else !rawB a b c (IntKind.i64.wrap y8)) = true, decide (m ≤ 4) = false, decide (m ≤ 4) = false, decide (m ≤ 4) = false, decide (m ≤ 4) = false, decide (m ≤ 4) = false, decide (m ≤ 4) = false, decide (m ≤ 4) = false]) := by kernel_rfl
theorem r4b (m a b c n k l s d0 d1 d2 d3 sg db y1 y2 y3 y4 y5 y6 y7 y8 y9 : Int) : execA Tryz.prog sgF 300 73 (cL (cR (cR thn10))) (sM m a b c n k l s d0 d1 d2 d3 sg db y1 y2 y3 y4 y5 y6 y7 y8 y9) ⟨0, [(0, false), (1, false), (2, false), (3, false), (4, false), (5, false), (6, false), (7, false)], []⟩ (fun x s α => some (x, fgt KM 73 s, α.ob)) = some (.normal, sM m a b c n k l s d0 d1 d2 d3 sg db y1 y2 y3 y4 y5 y6 y7 y8 y9, [(if false = true then true else !rawB a b c (IntKind.i64.wrap y8)) = false, decide (m ≤ 4) = false, decide (m ≤ 4) = false, decide (m ≤ 4) = false, decide (m ≤ 4) = false, decide (m ≤ 4) = false, decide (m ≤ 4) = false, decide (m ≤ 4) = false]) := by kernel_rfl
theorem r4c (m a b c n k l s d0 d1 d2 d3 sg db y1 y2 y3 y4 y5 y6 y7 y8 y9 : Int) : execA Tryz.prog sgF 300 73 (cL (cR (cR thn10))) (sM m a b c n k l s d0 d1 d2 d3 sg db y1 y2 y3 y4 y5 y6 y7 y8 y9) ⟨0, [(0, true), (1, true), (2, true), (3, true), (4, true), (5, true), (6, true)], []⟩ (fun x s α => some (x, fgt KM 73 s, α.ob)) = some (.normal, sM m a b c n k l s d0 d1 d2 d3 sg db y1 y2 y3 y4 y5 y6 y7 0 y9, [decide (m ≤ 4) = true, decide (m ≤ 4) = true, decide (m ≤ 4) = true, decide (m ≤ 4) = true, decide (m ≤ 4) = true, decide (m ≤ 4) = true, decide (m ≤ 4) = true]) := by kernel_rfl
theorem r4 (m a b c n k l s d0 d1 d2 d3 sg db y1 y2 y3 y4 y5 y6 y7 y8 y9 : Int) (h : U16 y8) {Q : X → S → Prop} (hq : Q .normal (sM m a b c n k l s d0 d1 d2 d3 sg db y1 y2 y3 y4 y5 y6 y7 (kp a b c (decide (m > 4)) y8) y9)) : Tr Tryz.prog 73 (cL (cR (cR thn10))) (sM m a b c n k l s d0 d1 d2 d3 sg db y1 y2 y3 y4 y5 y6 y7 y8 y9) Q := by
  cases h2 : decide (m ≤ 4) with
  | true => rw [show decide (m > 4) = false by simp at h2 ⊢; omega, kp_f] at hq; exact Tr.path fitF (r4c m a b c n k l s d0 d1 d2 d3 sg db y1 y2 y3 y4 y5 y6 y7 y8 y9) (by simp only [All, h2]; simp) hq
  | false =>
    rw [show decide (m > 4) = true by simp at h2 ⊢; omega] at hq
    cases h3 : rawB a b c y8 with
    | false => rw [kp_0 h3] at hq; exact Tr.path fitF (r4a m a b c n k l s d0 d1 d2 d3 sg db y1 y2 y3 y4 y5 y6 y7 y8 y9) (by simp only [All, h2, wrap_u16 h, h3]; simp) hq
    | true => rw [kp_1 h3] at hq; exact Tr.path fitF (r4b m a b c n k l s d0 d1 d2 d3 sg db y1 y2 y3 y4 y5 y6 y7 y8 y9) (by simp only [All, h2, wrap_u16 h, h3]; simp) hq
theorem r5a (m a b c n k l s d0 d1 d2 d3 sg db y1 y2 y3 y4 y5 y6 y7 y8 y9 : Int) : execA Tryz.prog sgF 300 73 (cR (cR (cR thn10))) (sM m a b c n k l s d0 d1 d2 d3 sg db y1 y2 y3 y4 y5 y6 y7 y8 y9) ⟨0, [(0, false), (1, false), (2, false), (3, false), (4, false), (5, false), (6, false), (7, true)], []⟩ (fun x s α => some (x, fgt KM 73 s, α.ob)) = some (.normal, sM m a b c n k l s d0 d1 d2 d3 sg db y1 y2 y3 y4 y5 y6 y7 y8 0, [(if false = true then true else !rawB a b c (IntKind.i64.wrap y9)) = true, decide (m ≤ 31) = false, decide (m ≤ 31) = false, decide (m ≤ 31) = false, decide (m ≤ 31) = false, decide (m ≤ 31) = false, decide (m ≤ 31) = false, decide (m ≤ 31) = false]) := by kernel_rfl
theorem r5b (m a b c n k l s d0 d1 d2 d3 sg db y1 y2 y3 y4 y5 y6 y7 y8 y9 : Int) : execA Tryz.prog sgF 300 73 (cR (cR (cR thn10))) (sM m a b c n k l s d0 d1 d2 d3 sg db y1 y2 y3 y4 y5 y6 y7 y8 y9) ⟨0, [(0, false), (1, false), (2, false), (3, false), (4, false), (5, false), (6, false), (7, false)], []⟩ (fun x s α => some (x, fgt KM 73 s, α.ob)) = some (.normal, sM m a b c n k l s d0 d1 d2 d3 sg db y1 y2 y3 y4 y5 y6 y7 y8 y9, [(if false = true then true else !rawB a b c (IntKind.i64.wrap y9)) = false, decide (m ≤ 31) = false, decide (m ≤ 31) = false, decide (m ≤ 31) = false, decide (m ≤ 31) = false, decide (m ≤ 31) = false, decide (m ≤ 31) = false, decide (m ≤ 31) = false]) := by kernel_rfl
theorem r5c (m a b c n k l s d0 d1 d2 d3 sg db y1 y2 y3 y4 y5 y6 y7 y8 y9 : Int) : execA Tryz.prog sgF 300 73 (cR (cR (cR thn10))) (sM m a b c n k l s d0 d1 d2 d3 sg db y1 y2 y3 y4 y5 y6 y7 y8 y9) ⟨0, [(0, true), (1, true), (2, true), (3, true), (4, true), (5, true), (6, true)], []⟩ (fun x s α => some (x, fgt KM 73 s, α.ob)) = some (.normal, sM m a b c n k l s d0 d1 d2 d3 sg db y1 y2 y3 y4 y5 y6 y7 y8 0, [decide (m ≤ 31) = true, decide (m ≤ 31) = true, decide (m ≤ 31) = true, decide (m ≤ 31) = true, decide (m ≤ 31) = true, decide (m ≤ 31) = true, decide (m ≤ 31) = true]) := by kernel_rfl
theorem r5 (m a b c n k l s d0 d1 d2 d3 sg db y1 y2 y3 y4 y5 y6 y7 y8 y9 : Int) (h : U16 y9) {Q : X → S → Prop} (hq : Q .normal (sM m a b c n k l s d0 d1 d2 d3 sg db y1 y2 y3 y4 y5 y6 y7 y8 (kp a b c (decide (m > 31)) y9))) : Tr Tryz.prog 73 (cR (cR (cR thn10))) (sM m a b c n k l s d0 d1 d2 d3 sg db y1 y2 y3 y4 y5 y6 y7 y8 y9) Q := by
  cases h2 : decide (m ≤ 31) with
  | true => rw [show decide (m > 31) = false by simp at h2 ⊢; omega, kp_f] at hq; exact Tr.path fitF (r5c m a b c n k l s d0 d1 d2 d3 sg db y1 y2 y3 y4 y5 y6 y7 y8 y9) (by simp only [All, h2]; simp) hq
  | false =>
    rw [show decide (m > 31) = true by simp at h2 ⊢; omega] at hq
    cases h3 : rawB a b c y9 with
    | false => rw [kp_0 h3] at hq; exact Tr.path fitF (r5a m a b c n k l s d0 d1 d2 d3 sg db y1 y2 y3 y4 y5 y6 y7 y8 y9) (by simp only [All, h2, wrap_u16 h, h3]; simp) hq
    | true => rw [kp_1 h3] at hq; exact Tr.path fitF (r5b m a b c n k l s d0 d1 d2 d3 sg db y1 y2 y3 y4 y5 y6 y7 y8 y9) (by simp only [All, h2, wrap_u16 h, h3]; simp) hq
theorem r4x (m a b c n k l s d0 d1 d2 d3 sg db y1 y2 y3 y4 y5 y6 y7 y8 y9 : Int) : execA Tryz.prog sgF 300 73 l10 (sL 4 m a b c n k l s d0 d1 d2 d3 sg db y1 y2 y3 y4 y5 y6 y7 y8 y9) ⟨0, [], []⟩ (fun x s α => some (x, fgt KM 73 s, α.ob)) = some (.exit 0, sM m a b c n k l s d0 d1 d2 d3 sg db y1 y2 y3 y4 y5 y6 y7 y8 y9, []) := by kernel_rfl
theorem rl4 (m a b c n k l s d0 d1 d2 d3 sg db y1 y2 y3 y4 y5 y6 y7 y8 y9 : Int) {Q : X → S → Prop} (hq : Q (.exit 0) (sM m a b c n k l s d0 d1 d2 d3 sg db y1 y2 y3 y4 y5 y6 y7 y8 y9)) : Tr Tryz.prog 73 (.loop l10) (sL 4 m a b c n k l s d0 d1 d2 d3 sg db y1 y2 y3 y4 y5 y6 y7 y8 y9) Q := by
  refine Tr.loop (Tr.path fitF (r4x m a b c n k l s d0 d1 d2 d3 sg db y1 y2 y3 y4 y5 y6 y7 y8 y9) trivial ?_)
  exact hq
theorem rl3 (m a b c n k l s d0 d1 d2 d3 sg db y1 y2 y3 y4 y5 y6 y7 y8 y9 : Int) (p3 : U16 y7) {Q : X → S → Prop} (hq : Q (.exit 0) (sM m a b c n k l s d0 d1 d2 d3 sg db y1 y2 y3 y4 y5 y6 (kp a b c (decide (m > 3)) y7) y8 y9)) : Tr Tryz.prog 73 (.loop l10) (sL 3 m a b c n k l s d0 d1 d2 d3 sg db y1 y2 y3 y4 y5 y6 y7 y8 y9) Q :=
  Tr.loop (r3 m a b c n k l s d0 d1 d2 d3 sg db y1 y2 y3 y4 y5 y6 y7 y8 y9 p3 (rl4 m a b c n k l s d0 d1 d2 d3 sg db y1 y2 y3 y4 y5 y6 (kp a b c (decide (m > 3)) y7) y8 y9  hq))
theorem rl2 (m a b c n k l s d0 d1 d2 d3 sg db y1 y2 y3 y4 y5 y6 y7 y8 y9 : Int) (p2 : U16 y6) (p3 : U16 y7) {Q : X → S → Prop} (hq : Q (.exit 0) (sM m a b c n k l s d0 d1 d2 d3 sg db y1 y2 y3 y4 y5 (kp a b c (decide (m > 2)) y6) (kp a b c (decide (m > 3)) y7) y8 y9)) : Tr Tryz.prog 73 (.loop l10) (sL 2 m a b c n k l s d0 d1 d2 d3 sg db y1 y2 y3 y4 y5 y6 y7 y8 y9) Q :=
  Tr.loop (r2 m a b c n k l s d0 d1 d2 d3 sg db y1 y2 y3 y4 y5 y6 y7 y8 y9 p2 (rl3 m a b c n k l s d0 d1 d2 d3 sg db y1 y2 y3 y4 y5 (kp a b c (decide (m > 2)) y6) y7 y8 y9 p3 hq))
theorem rl1 (m a b c n k l s d0 d1 d2 d3 sg db y1 y2 y3 y4 y5 y6 y7 y8 y9 : Int) (p1 : U16 y5) (p2 : U16 y6) (p3 : U16 y7) {Q : X → S → Prop} (hq : Q (.exit 0) (sM m a b c n k l s d0 d1 d2 d3 sg db y1 y2 y3 y4 (kp a b c (decide (m > 1)) y5) (kp a b c (decide (m > 2)) y6) (kp a b c (decide (m > 3)) y7) y8 y9)) : Tr Tryz.prog 73 (.loop l10) (sL 1 m a b c n k l s d0 d1 d2 d3 sg db y1 y2 y3 y4 y5 y6 y7 y8 y9) Q :=
  Tr.loop (r1 m a b c n k l s d0 d1 d2 d3 sg db y1 y2 y3 y4 y5 y6 y7 y8 y9 p1 (rl2 m a b c n k l s d0 d1 d2 d3 sg db y1 y2 y3 y4 (kp a b c (decide (m > 1)) y5) y6 y7 y8 y9 p2 p3 hq))
theorem rl0 (m a b c n k l s d0 d1 d2 d3 sg db y1 y2 y3 y4 y5 y6 y7 y8 y9 : Int) (p0 : U16 y4) (p1 : U16 y5) (p2 : U16 y6) (p3 : U16 y7) {Q : X → S → Prop} (hq : Q (.exit 0) (sM m a b c n k l s d0 d1 d2 d3 sg db y1 y2 y3 (kp a b c (decide (m > 0)) y4) (kp a b c (decide (m > 1)) y5) (kp a b c (decide (m > 2)) y6) (kp a b c (decide (m > 3)) y7) y8 y9)) : Tr Tryz.prog 73 (.loop l10) (sL 0 m a b c n k l s d0 d1 d2 d3 sg db y1 y2 y3 y4 y5 y6 y7 y8 y9) Q :=
  Tr.loop (r0 m a b c n k l s d0 d1 d2 d3 sg db y1 y2 y3 y4 y5 y6 y7 y8 y9 p0 (rl1 m a b c n k l s d0 d1 d2 d3 sg db y1 y2 y3 (kp a b c (decide (m > 0)) y4) y5 y6 y7 y8 y9 p1 p2 p3 hq))
noncomputable def sl10 (a b c n k l s d0 d1 d2 d3 sg db : Int) : T RV := match setArgs 73 (arg9 a b c n k l s d0 d1 d2 d3 sg db) 0 .nil some with | some t => t | none => .nil
theorem sl10_ok (a b c n k l s d0 d1 d2 d3 sg db : Int) : setArgs 73 (arg9 a b c n k l s d0 d1 d2 d3 sg db) 0 .nil some = some (sl10 a b c n k l s d0 d1 d2 d3 sg db) := by kernel_rfl
theorem q0 (a b c n k l s d0 d1 d2 d3 sg db : Int) : execA Tryz.prog sgF 300 73 (cL c10) ⟨sl10 a b c n k l s d0 d1 d2 d3 sg db, .nil, 0, []⟩ ⟨0, [], []⟩ (fun x s α => some (x, fgt KX 73 s, α.ob)) = some (.normal, sX a b c n k l s d0 d1 d2 d3 sg db, []) := by kernel_rfl
theorem q1a (a b c n k l s d0 d1 d2 d3 sg db : Int) : execA Tryz.prog sgF 300 73 (cL (cR c10)) (sX a b c n k l s d0 d1 d2 d3 sg db) ⟨0, [(0, true)], []⟩ (fun x s α => some (x, fgt KX 73 s, α.ob)) = some (.normal, sX a b c n 0 0 0 0 0 0 0 0 0, [(errI (chk k l s d0 d1 d2 d3 sg db) != 0) = true, 0 ≤ k, 0 ≤ s]) := by kernel_rfl
theorem q1b (a b c n k l s d0 d1 d2 d3 sg db : Int) : execA Tryz.prog sgF 300 73 (cL (cR c10)) (sX a b c n k l s d0 d1 d2 d3 sg db) ⟨0, [(0, false)], []⟩ (fun x s α => some (x, fgt KX 73 s, α.ob)) = some (.normal, sX a b c n k l s d0 d1 d2 d3 sg db, [(errI (chk k l s d0 d1 d2 d3 sg db) != 0) = false, 0 ≤ k, 0 ≤ s]) := by kernel_rfl
theorem q2 (a b c n k l s d0 d1 d2 d3 sg db : Int) : execA Tryz.prog sgF 300 73 (cL (cR (cR c10))) (sX a b c n k l s d0 d1 d2 d3 sg db) ⟨0, [], []⟩ (fun x s α => some (x, fgt KY 73 s, α.ob)) = some (.normal, sY a b c n k l s d0 d1 d2 d3 sg db k l s d0 d1 d2 d3 sg db, []) := by kernel_rfl
/-- the test of the kind -/
noncomputable def sK (a b c n k l s d0 d1 d2 d3 sg db y1 y2 y3 y4 y5 y6 y7 y8 y9 : Int) : S := fgt [1, 3, 6, 7, 17] 73 ⟨ysl n [(7, .one (.c (.ptr 3 0))), (17, .one (.c (.bool (y1 != 0))))], yhp a b c k l s d0 d1 d2 d3 sg db y1 y2 y3 y4 y5 y6 y7 y8 y9 Z9, 4, []⟩
theorem q3a (a b c n k l s d0 d1 d2 d3 sg db y1 y2 y3 y4 y5 y6 y7 y8 y9 : Int) : execA Tryz.prog sgF 300 73 (cL rest10) (sY a b c n k l s d0 d1 d2 d3 sg db y1 y2 y3 y4 y5 y6 y7 y8 y9) ⟨0, [(0, false)], []⟩ (fun x s α => some (x, fgt KY 73 s, α.ob)) = some (.normal, sY a b c n k l s d0 d1 d2 d3 sg db y1 y2 y3 y4 y5 y6 y7 y8 y9, [(y1 != 0) = false]) := by kernel_rfl
theorem q3r (a b c n k l s d0 d1 d2 d3 sg db y1 y2 y3 y4 y5 y6 y7 y8 y9 : Int) : execA Tryz.prog sgF 300 73 (cL (cL rest10)) (sY a b c n k l s d0 d1 d2 d3 sg db y1 y2 y3 y4 y5 y6 y7 y8 y9) ⟨0, [], []⟩ (fun x s α => some (x, fgt [1, 3, 6, 7, 17] 73 s, α.ob)) = some (.normal, sK a b c n k l s d0 d1 d2 d3 sg db y1 y2 y3 y4 y5 y6 y7 y8 y9, []) := by kernel_rfl
theorem q4 (a b c n k l s d0 d1 d2 d3 sg db y1 y2 y3 y4 y5 y6 y7 y8 y9 : Int) : execA Tryz.prog sgF 300 73 (cL thn10) (sY a b c n k l s d0 d1 d2 d3 sg db y1 y2 y3 y4 y5 y6 y7 y8 y9) ⟨0, [], []⟩ (fun x s α => some (x, fgt KM 73 s, α.ob)) = some (.normal, sM (blk (IntKind.i64.wrap y3)) a b c n k l s d0 d1 d2 d3 sg db y1 y2 y3 y4 y5 y6 y7 y8 y9, [0 ≤ IntKind.i64.wrap y3, IntKind.i64.wrap y3 < 4294967296]) := by kernel_rfl
theorem q5 (m a b c n k l s d0 d1 d2 d3 sg db y1 y2 y3 y4 y5 y6 y7 y8 y9 : Int) : execA Tryz.prog sgF 300 73 (cL (cL (cR thn10))) (sM m a b c n k l s d0 d1 d2 d3 sg db y1 y2 y3 y4 y5 y6 y7 y8 y9) ⟨0, [], []⟩ (fun x s α => some (x, fgt KL 73 s, α.ob)) = some (.normal, sL 0 m a b c n k l s d0 d1 d2 d3 sg db y1 y2 y3 y4 y5 y6 y7 y8 y9, []) := by kernel_rfl
noncomputable def e10 : Code := cR rest10
theorem e1 (a b c n k l s d0 d1 d2 d3 sg db y1 y2 y3 y4 y5 y6 y7 y8 y9 : Int) : execA Tryz.prog sgF 300 73 e10 (sY a b c n k l s d0 d1 d2 d3 sg db y1 y2 y3 y4 y5 y6 y7 y8 y9) ⟨0, [(0, true), (1, true), (2, true), (3, true), (4, true)], []⟩ (fun x s α => some (x, fgt [6] 73 s, α.ob)) = some (.ret, sE a b c k l s d0 d1 d2 d3 sg db y1 y2 y3 y4 y5 y6 y7 y8 y9 (inoL 2 1 0 0 0 0 0 0 0), [(if true = true then y1 != 2 else false) = true, (n == 1) = true, (n == 1) = true, (n == 1) = true, (n == 1) = true]) := by kernel_rfl
theorem e2 (a b c n k l s d0 d1 d2 d3 sg db y1 y2 y3 y4 y5 y6 y7 y8 y9 : Int) : execA Tryz.prog sgF 300 73 e10 (sY a b c n k l s d0 d1 d2 d3 sg db y1 y2 y3 y4 y5 y6 y7 y8 y9) ⟨0, [(0, true), (1, true), (2, true), (3, true), (4, false)], []⟩ (fun x s α => some (x, fgt [6] 73 s, α.ob)) = some (.ret, sE a b c k l s d0 d1 d2 d3 sg db y1 y2 y3 y4 y5 y6 y7 y8 y9 (inoL y1 y2 y3 y4 y5 y6 y7 y8 y9), [(if true = true then y1 != 2 else false) = false, (n == 1) = true, (n == 1) = true, (n == 1) = true, (n == 1) = true]) := by kernel_rfl
theorem e3 (a b c n k l s d0 d1 d2 d3 sg db y1 y2 y3 y4 y5 y6 y7 y8 y9 : Int) : execA Tryz.prog sgF 300 73 e10 (sY a b c n k l s d0 d1 d2 d3 sg db y1 y2 y3 y4 y5 y6 y7 y8 y9) ⟨0, [(0, false), (1, false), (2, false), (3, false)], []⟩ (fun x s α => some (x, fgt [6] 73 s, α.ob)) = some (.ret, sE a b c k l s d0 d1 d2 d3 sg db y1 y2 y3 y4 y5 y6 y7 y8 y9 (inoL y1 y2 y3 y4 y5 y6 y7 y8 y9), [(n == 1) = false, (n == 1) = false, (n == 1) = false, (n == 1) = false]) := by kernel_rfl
theorem eR (a b c k l s d0 d1 d2 d3 sg db y1 y2 y3 y4 y5 y6 y7 y8 y9 x1 x2 x3 x4 x5 x6 x7 x8 x9 : Int) : resOf Tryz.prog 73 (sE a b c k l s d0 d1 d2 d3 sg db y1 y2 y3 y4 y5 y6 y7 y8 y9 (inoL x1 x2 x3 x4 x5 x6 x7 x8 x9)) Tryz.f94.results.toList = some [.agg (inoL x1 x2 x3 x4 x5 x6 x7 x8 x9)] := by kernel_rfl
abbrev Ret10 (r : List Cell) : X → S → Prop := fun x s1 => (x = .normal ∨ x = .ret) ∧ ∃ l, resOf Tryz.prog 73 s1 Tryz.f94.results.toList = some l ∧ resRV l = .one (.agg r)
theorem end10 (a b c n k l s d0 d1 d2 d3 sg db y1 y2 y3 y4 y5 y6 y7 y8 y9 : Int) : Tr Tryz.prog 73 e10 (sY a b c n k l s d0 d1 d2 d3 sg db y1 y2 y3 y4 y5 y6 y7 y8 y9) (Ret10 (fin9 n y1 y2 y3 y4 y5 y6 y7 y8 y9)) := by
  cases h1 : (n == 1) with
  | false =>
    refine Tr.path fitF (e3 a b c n k l s d0 d1 d2 d3 sg db y1 y2 y3 y4 y5 y6 y7 y8 y9) (by simp only [All, h1]; simp) ⟨.inr rfl, _, eR _ _ _ _ _ _ _ _ _ _ _ _ _ _ _ _ _ _ _ _ _ _ _ _ _ _ _ _ _ _, ?_⟩
    simp at h1
    rw [fin9, if_neg (fun h => h1 h.1)]; rfl
  | true =>
    cases h2 : (y1 != 2) with
    | false =>
      refine Tr.path fitF (e2 a b c n k l s d0 d1 d2 d3 sg db y1 y2 y3 y4 y5 y6 y7 y8 y9) (by simp only [All, h1, h2]; simp) ⟨.inr rfl, _, eR _ _ _ _ _ _ _ _ _ _ _ _ _ _ _ _ _ _ _ _ _ _ _ _ _ _ _ _ _ _, ?_⟩
      simp at h2
      rw [fin9, if_neg (fun h => h.2 h2)]; rfl
    | true =>
      refine Tr.path fitF (e1 a b c n k l s d0 d1 d2 d3 sg db y1 y2 y3 y4 y5 y6 y7 y8 y9) (by simp only [All, h1, h2]; simp) ⟨.inr rfl, _, eR _ _ _ _ _ _ _ _ _ _ _ _ _ _ _ _ _ _ _ _ _ _ _ _ _ _ _ _ _ _, ?_⟩
      simp at h1 h2
      rw [fin9, if_pos ⟨h1, h2⟩]; rfl
theorem fgtM (a b c n k l s d0 d1 d2 d3 sg db y1 y2 y3 y4 y5 y6 y7 y8 y9 m : Int) : fgt KY 73 (sM m a b c n k l s d0 d1 d2 d3 sg db y1 y2 y3 y4 y5 y6 y7 y8 y9) = sY a b c n k l s d0 d1 d2 d3 sg db y1 y2 y3 y4 y5 y6 y7 y8 y9 := by kernel_rfl
theorem thn (a b c n k l s d0 d1 d2 d3 sg db y1 y2 y3 y4 y5 y6 y7 y8 y9 : Int) (hs : 0 ≤ y3) (hs1 : y3 < 4294967296) (p0 : U16 y4) (p1 : U16 y5) (p2 : U16 y6) (p3 : U16 y7) (p4 : U16 y8) (p5 : U16 y9) {Q : X → S → Prop} (hq : Q .normal (sY a b c n k l s d0 d1 d2 d3 sg db y1 y2 y3 (kp a b c (decide ((blk y3) > 0)) y4) (kp a b c (decide ((blk y3) > 1)) y5) (kp a b c (decide ((blk y3) > 2)) y6) (kp a b c (decide ((blk y3) > 3)) y7) (kp a b c (decide ((blk y3) > 4)) y8) (kp a b c (decide ((blk y3) > 31)) y9))) : Tr Tryz.prog 73 thn10 (sY a b c n k l s d0 d1 d2 d3 sg db y1 y2 y3 y4 y5 y6 y7 y8 y9) Q := by
  have hC := q4 a b c n k l s d0 d1 d2 d3 sg db y1 y2 y3 y4 y5 y6 y7 y8 y9
  rw [wrap_u32 hs hs1] at hC
  refine Tr.seq (c := cL thn10) (d := cR thn10) (Tr.path fitF hC ⟨hs, hs1, trivial⟩ ?_)
  refine Tr.seq (c := cL (cR thn10)) (d := cR (cR thn10)) ?_
  refine Tr.seq (c := cL (cL (cR thn10))) (d := .block 0 (.loop l10)) (Tr.path fitF (q5 (blk y3) a b c n k l s d0 d1 d2 d3 sg db y1 y2 y3 y4 y5 y6 y7 y8 y9) trivial ?_)
  refine Tr.block (rl0 (blk y3) a b c n k l s d0 d1 d2 d3 sg db y1 y2 y3 y4 y5 y6 y7 y8 y9 p0 p1 p2 p3 ?_)
  refine Tr.seq (c := cL (cR (cR thn10))) (d := cR (cR (cR thn10))) (r4 (blk y3) a b c n k l s d0 d1 d2 d3 sg db y1 y2 y3 (kp a b c (decide ((blk y3) > 0)) y4) (kp a b c (decide ((blk y3) > 1)) y5) (kp a b c (decide ((blk y3) > 2)) y6) (kp a b c (decide ((blk y3) > 3)) y7) y8 y9 p4 ?_)
  refine Tr.fgt KY (r5 (blk y3) a b c n k l s d0 d1 d2 d3 sg db y1 y2 y3 (kp a b c (decide ((blk y3) > 0)) y4) (kp a b c (decide ((blk y3) > 1)) y5) (kp a b c (decide ((blk y3) > 2)) y6) (kp a b c (decide ((blk y3) > 3)) y7) (kp a b c (decide ((blk y3) > 4)) y8) y9 p5 ?_)
  rw [fgtM]
  exact hq
/-- the reference's own way to it -/
def mid10 (a b c n y1 y2 y3 y4 y5 y6 y7 y8 y9 : Int) : List Cell := if y1 = 0 then fin9 n y1 y2 y3 y4 y5 y6 y7 y8 y9 else mid9 a b c n y1 y2 y3 y4 y5 y6 y7 y8 y9
theorem tail10 (a b c n k l s d0 d1 d2 d3 sg db y1 y2 y3 y4 y5 y6 y7 y8 y9 : Int) (hs : 0 ≤ y3) (hs1 : y3 < 4294967296) (p0 : U16 y4) (p1 : U16 y5) (p2 : U16 y6) (p3 : U16 y7) (p4 : U16 y8) (p5 : U16 y9) :
    Tr Tryz.prog 73 rest10 (sY a b c n k l s d0 d1 d2 d3 sg db y1 y2 y3 y4 y5 y6 y7 y8 y9) (Ret10 (mid10 a b c n y1 y2 y3 y4 y5 y6 y7 y8 y9)) := by
  refine Tr.seq (c := cL rest10) (d := e10) ?_
  by_cases h : y1 = 0
  · rw [mid10, if_pos h]
    refine Tr.path fitF (q3a a b c n k l s d0 d1 d2 d3 sg db y1 y2 y3 y4 y5 y6 y7 y8 y9) ⟨by simp [h], trivial⟩ ?_
    exact end10 a b c n k l s d0 d1 d2 d3 sg db y1 y2 y3 y4 y5 y6 y7 y8 y9
  · rw [mid10, if_neg h]
    refine Tr.seq (c := cL (cL rest10)) (d := .cond (.tmp 17) thn10 .skip) (Tr.path fitF (q3r a b c n k l s d0 d1 d2 d3 sg db y1 y2 y3 y4 y5 y6 y7 y8 y9) trivial ?_)
    refine Tr.condT (t := y1 != 0) (by kernel_rfl) (by simp [h]) ?_
    refine Tr.pre KY ?_
    rw [show fgt KY 73 (sK a b c n k l s d0 d1 d2 d3 sg db y1 y2 y3 y4 y5 y6 y7 y8 y9) = sY a b c n k l s d0 d1 d2 d3 sg db y1 y2 y3 y4 y5 y6 y7 y8 y9 by kernel_rfl]
    refine thn a b c n k l s d0 d1 d2 d3 sg db y1 y2 y3 y4 y5 y6 y7 y8 y9 hs hs1 p0 p1 p2 p3 p4 p5 ?_
    exact end10 _ _ _ _ _ _ _ _ _ _ _ _ _ y1 y2 y3 _ _ _ _ _ _
def should10 (a b c n k l s d0 d1 d2 d3 sg db : Int) : List Cell := if chk k l s d0 d1 d2 d3 sg db then mid10 a b c n k l s d0 d1 d2 d3 sg db else mid10 a b c n 0 0 0 0 0 0 0 0 0
theorem body10 (a b c n k l s d0 d1 d2 d3 sg db : Int) (hk : 0 ≤ k) (hs : 0 ≤ s) (hs1 : s < 4294967296) (p0 : U16 d0) (p1 : U16 d1) (p2 : U16 d2) (p3 : U16 d3) (p4 : U16 sg) (p5 : U16 db) :
    Tr Tryz.prog 73 c10 ⟨sl10 a b c n k l s d0 d1 d2 d3 sg db, .nil, 0, []⟩ (Ret10 (should10 a b c n k l s d0 d1 d2 d3 sg db)) := by
  refine Tr.seq (c := cL c10) (d := cR c10) (Tr.path fitF (q0 a b c n k l s d0 d1 d2 d3 sg db) trivial ?_)
  refine Tr.seq (c := cL (cR c10)) (d := cR (cR c10)) ?_
  cases h : chk k l s d0 d1 d2 d3 sg db with
  | false =>
    refine Tr.path fitF (q1a a b c n k l s d0 d1 d2 d3 sg db) ⟨by rw [errI_ne, h]; rfl, hk, hs, trivial⟩ ?_
    rw [should10, h]
    refine Tr.seq (c := cL (cR (cR c10))) (d := rest10) (Tr.path fitF (q2 a b c n 0 0 0 0 0 0 0 0 0) trivial ?_)
    exact tail10 _ _ _ _ _ _ _ _ _ _ _ _ _ _ _ _ _ _ _ _ _ _ (by omega) (by omega) u0 u0 u0 u0 u0 u0
  | true =>
    refine Tr.path fitF (q1b a b c n k l s d0 d1 d2 d3 sg db) ⟨by rw [errI_ne, h]; rfl, hk, hs, trivial⟩ ?_
    rw [should10, h]
    refine Tr.seq (c := cL (cR (cR c10))) (d := rest10) (Tr.path fitF (q2 a b c n k l s d0 d1 d2 d3 sg db) trivial ?_)
    exact tail10 _ _ _ _ _ _ _ _ _ _ _ _ _ _ _ _ _ _ _ _ _ _ hs hs1 p0 p1 p2 p3 p4 p5
end Go.Sx.Fi

namespace Go.Sx.Fi
open Go.Proofs Go.RowKit
set_option maxRecDepth 100000
structure Ino9 where
  k : Int
  l : Int
  s : Int
  d0 : Int
  d1 : Int
  d2 : Int
  d3 : Int
  sg : Int
  db : Int
def Ino9.L (y : Ino9) : List Cell := inoL y.k y.l y.s y.d0 y.d1 y.d2 y.d3 y.sg y.db
def Ino9.zero : Ino9 := ⟨0, 0, 0, 0, 0, 0, 0, 0, 0⟩
def Ino9.chk (y : Ino9) : Bool := Sx.chk y.k y.l y.s y.d0 y.d1 y.d2 y.d3 y.sg y.db
def finI (n : Int) (y : Ino9) : Ino9 := if n = 1 ∧ y.k ≠ 2 then ⟨2, 1, 0, 0, 0, 0, 0, 0, 0⟩ else y
def kpI (a b c : Int) (y : Ino9) : Ino9 := ⟨y.k, y.l, y.s, kp a b c (decide (blk y.s > 0)) y.d0, kp a b c (decide (blk y.s > 1)) y.d1, kp a b c (decide (blk y.s > 2)) y.d2, kp a b c (decide (blk y.s > 3)) y.d3, kp a b c (decide (blk y.s > 4)) y.sg, kp a b c (decide (blk y.s > 31)) y.db⟩
def sh (a b c n : Int) (y : Ino9) : Ino9 := finI n (kpI a b c (if y.chk then y else .zero))
structure Ino9.Ok (y : Ino9) : Prop where
  k : 0 ≤ y.k
  s : 0 ≤ y.s
  s1 : y.s < 4294967296
  d0 : U16 y.d0
  d1 : U16 y.d1
  d2 : U16 y.d2
  d3 : U16 y.d3
  sg : U16 y.sg
  db : U16 y.db
theorem finI_L (n : Int) (y : Ino9) : fin9 n y.k y.l y.s y.d0 y.d1 y.d2 y.d3 y.sg y.db = (finI n y).L := by
  unfold fin9 finI
  split <;> rfl
theorem mid_L (a b c n : Int) (y : Ino9) : mid9 a b c n y.k y.l y.s y.d0 y.d1 y.d2 y.d3 y.sg y.db = (finI n (kpI a b c y)).L := finI_L n (kpI a b c y)
theorem sh_L (a b c n : Int) (y : Ino9) : should a b c n y.k y.l y.s y.d0 y.d1 y.d2 y.d3 y.sg y.db = (sh a b c n y).L := by
  unfold should sh
  show (if y.chk = true then _ else _) = _
  cases h : y.chk with
  | true => rw [if_pos rfl, if_pos rfl]; exact mid_L a b c n y
  | false => rw [if_neg (by simp), if_neg (by simp)]; exact mid_L a b c n .zero
theorem kp_zero (a b c : Int) (b' : Bool) : kp a b c b' 0 = 0 := by unfold kp; split <;> rfl
theorem chk_zero {y : Ino9} (h : y.chk = true) (h0 : y.k = 0) : y = .zero := by
  unfold Ino9.chk Sx.chk at h
  rw [if_pos h0] at h
  unfold zeroIno at h
  simp only [Bool.and_eq_true, beq_iff_eq] at h
  obtain ⟨⟨⟨⟨⟨⟨⟨⟨a1, a2⟩, a3⟩, a4⟩, a5⟩, a6⟩, a7⟩, a8⟩, a9⟩ := h
  cases y
  simp_all [Ino9.zero]
theorem kpI_zero (a b c : Int) : kpI a b c .zero = .zero := by simp [kpI, Ino9.zero, kp_zero]
theorem mid10_eq (a b c n : Int) (y : Ino9) (h : y.chk = true) : mid10 a b c n y.k y.l y.s y.d0 y.d1 y.d2 y.d3 y.sg y.db = (finI n (kpI a b c y)).L := by
  unfold mid10
  split
  · rename_i h0
    rw [finI_L, chk_zero h h0, kpI_zero]
  · exact mid_L a b c n y
theorem zero_chk : Ino9.zero.chk = true := by unfold Ino9.chk Sx.chk Ino9.zero zeroIno; rfl
theorem sh10_L (a b c n : Int) (y : Ino9) : should10 a b c n y.k y.l y.s y.d0 y.d1 y.d2 y.d3 y.sg y.db = (sh a b c n y).L := by
  unfold should10 sh
  show (if y.chk = true then _ else _) = _
  cases h : y.chk with
  | true => rw [if_pos rfl, if_pos rfl]; exact mid10_eq a b c n y h
  | false => rw [if_neg (by simp), if_neg (by simp)]; exact mid10_eq a b c n .zero zero_chk
/-! what should be is as it should be -/
def Ino9.root : Ino9 := ⟨2, 1, 0, 0, 0, 0, 0, 0, 0⟩
theorem finI_ind {Q : Ino9 → Prop} {n : Int} {z : Ino9} (h1 : n = 1 ∧ z.k ≠ 2 → Q .root) (h2 : ¬ (n = 1 ∧ z.k ≠ 2) → Q z) : Q (finI n z) := by
  by_cases h : n = 1 ∧ z.k ≠ 2
  · rw [show finI n z = .root from if_pos h]; exact h1 h
  · rw [show finI n z = z from if_neg h]; exact h2 h
theorem kp_u16 {a b c : Int} {p : Bool} {d : Int} (h : U16 d) : U16 (kp a b c p d) := by
  unfold kp
  split
  · exact h
  · exact u0
/-! the two, as summaries -/
def fSh (args : List RV) : Option (RV × List Prop) := match args with
  | [.one (.agg [.int .i64 a, .int .i64 b, .int .i64 c]), .one (.c (.int .i64 n)), .one (.agg [.int .u8 k, .int .u8 l, .int .u32 s, .int .u16 d0, .int .u16 d1, .int .u16 d2, .int .u16 d3, .int .u16 sg, .int .u16 db])] =>
    some (.one (.agg (sh a b c n ⟨k, l, s, d0, d1, d2, d3, sg, db⟩).L), [(Ino9.mk k l s d0 d1 d2 d3 sg db).Ok])
  | _ => none
theorem body9_eq : Tryz.f75.body = some c9 := by kernel_rfl
theorem body10_eq : Tryz.f94.body = some c10 := by kernel_rfl
theorem fSh9_ok : PureOK Tryz.prog 75 fSh := by
  intro args v ps h hp ρ w vs ha
  unfold fSh at h
  split at h <;> try (cases h; done)
  rename_i a b c n k l s d0 d1 d2 d3 sg db
  simp only [Option.some.injEq, Prod.mk.injEq] at h
  obtain ⟨rfl, rfl⟩ := h
  obtain ⟨⟨h1, h2, h3, h4, h5, h6, h7, h8, h9⟩, _⟩ := hp
  have hb := body9 a b c n k l s d0 d1 d2 d3 sg db h1 h2 h3 h4 h5 h6 h7 h8 h9
  have hL := sh_L a b c n ⟨k, l, s, d0, d1, d2, d3, sg, db⟩
  simp only at hL
  rw [hL] at hb
  exact Tr.pure (c := c9) (fn := Tryz.f75) Tryz.func75 body9_eq (args := arg9 a b c n k l s d0 d1 d2 d3 sg db) (by rfl) (by rfl) (sl9_ok a b c n k l s d0 d1 d2 d3 sg db) hb ρ w vs ha
theorem fSh10_ok : PureOK Tryz.prog 94 fSh := by
  intro args v ps h hp ρ w vs ha
  unfold fSh at h
  split at h <;> try (cases h; done)
  rename_i a b c n k l s d0 d1 d2 d3 sg db
  simp only [Option.some.injEq, Prod.mk.injEq] at h
  obtain ⟨rfl, rfl⟩ := h
  obtain ⟨⟨h1, h2, h3, h4, h5, h6, h7, h8, h9⟩, _⟩ := hp
  have hb := body10 a b c n k l s d0 d1 d2 d3 sg db h1 h2 h3 h4 h5 h6 h7 h8 h9
  have hL := sh10_L a b c n ⟨k, l, s, d0, d1, d2, d3, sg, db⟩
  simp only at hL
  rw [hL] at hb
  exact Tr.pure (c := c10) (fn := Tryz.f94) Tryz.func94 body10_eq (args := arg9 a b c n k l s d0 d1 d2 d3 sg db) (by rfl) (by rfl) (sl10_ok a b c n k l s d0 d1 d2 d3 sg db) hb ρ w vs ha
def fTrue (args : List RV) : Option (RV × List Prop) := match args with | [] => some (.one (.c (.bool true)), []) | _ => none
theorem fTrue_ok {P : Program} {f : FuncId} (hc : ∀ {s : S}, Top s → CallInfo P f [] s (.one (.c (.bool true))) s []) : SumAOK P f (pureSum fTrue) := by
  intro args s v hp nx lg ps ht h hp'
  unfold pureSum fTrue at h
  split at h <;> try (cases h; done)
  rename_i h1
  split at h1 <;> try (cases h1; done)
  cases h1
  simp only [Option.some.injEq, Prod.mk.injEq] at h
  obtain ⟨rfl, rfl, rfl, rfl, rfl⟩ := h
  exact hc ht
end Go.Sx.Fi
