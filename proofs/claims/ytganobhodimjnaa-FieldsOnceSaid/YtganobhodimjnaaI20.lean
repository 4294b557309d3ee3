/-
  Parts of the executor Sx over the model's code (any program), or of this seat's walks: words and proofs that the row's text uses.
-/
import Derived.Test.YtganobhodimjnaaF10
import Derived.Test.YtganobhodimjnaaG7
import Derived.Test.YtganobhodimjnaaQ1
namespace Go.Sx
open Go.Proofs Go.RowKit

theorem ArgsR.one {ρ : Rho} {x : RV} {vs : List Value} (h : ArgsR ρ [x] vs) : ∃ V, RVR ρ x V ∧ vs = [V] := by
  obtain ⟨V, vs', h1, h2, rfl⟩ := h
  cases h2
  exact ⟨V, h1, rfl⟩
theorem ArgsR.two {ρ : Rho} {x y : RV} {vs : List Value} (h : ArgsR ρ [x, y] vs) : ∃ V W, RVR ρ x V ∧ RVR ρ y W ∧ vs = [V, W] := by
  obtain ⟨V, vs', h1, h2, rfl⟩ := h
  obtain ⟨W, h3, rfl⟩ := h2.one
  exact ⟨V, W, h1, h3, rfl⟩
namespace Fi
def fChk (args : List RV) : Option (RV × List Prop) := match args with
  | [.one (.agg [.int .u8 k, .int .u8 l, .int .u32 s, .int .u16 d0, .int .u16 d1, .int .u16 d2, .int .u16 d3, .int .u16 sg, .int .u16 db])] => some (.one (.c (.int .i64 (errI (chk k l s d0 d1 d2 d3 sg db)))), [0 ≤ k, 0 ≤ s])
  | _ => none
def fBks (args : List RV) : Option (RV × List Prop) := match args with
  | [.one (.c (.int .i64 n))] => some (.one (.c (.int .i64 (blk n))), [0 ≤ n, n < 4294967296])
  | _ => none
def fRaw (args : List RV) : Option (RV × List Prop) := match args with
  | [.one (.agg [.int .i64 a, .int .i64 b, .int .i64 c]), .one (.c (.int .u16 s))] => some (.one (.c (.bool (rawB a b c s))), [0 ≤ s, s < 65536])
  | _ => none
def fRawR (args : List RV) : Option (RV × List Prop) := match args with
  | [.one (.agg [.int .i64 a, .int .i64 b, .int .i64 c]), .one (.c (.int .i64 s))] => some (.one (.c (.bool (rawB a b c s))), [])
  | _ => none

theorem fChk_ok (f : FuncId) (hc : ∀ (k l s d0 d1 d2 d3 sg db : Int), 0 ≤ k → 0 ≤ s → ∀ w : World, Chk f k l s d0 d1 d2 d3 sg db w (errI (chk k l s d0 d1 d2 d3 sg db))) : PureOK Try.prog f fChk := by
  intro args v ps h hp ρ w vs ha
  unfold fChk at h
  split at h <;> try (cases h; done)
  simp only [Option.some.injEq, Prod.mk.injEq] at h
  obtain ⟨rfl, rfl⟩ := h
  obtain ⟨V, h1, rfl⟩ := ha.one
  rw [agg_vals h1 rfl]
  exact (hc _ _ _ _ _ _ _ _ _ hp.1 hp.2.1 w).mono fun e w' ⟨e1, e2⟩ => ⟨_, e1, rfl, e2⟩
theorem fBks_ok (f : FuncId) (hc : ∀ (n : Int), 0 ≤ n → n < 4294967296 → ∀ w : World, Calls Try.prog f #[.int .i64 n] w fun e w' => e = .returned (.int .i64 (blk n)) ∧ w' = w) : PureOK Try.prog f fBks := by
  intro args v ps h hp ρ w vs ha
  unfold fBks at h
  split at h <;> try (cases h; done)
  simp only [Option.some.injEq, Prod.mk.injEq] at h
  obtain ⟨rfl, rfl⟩ := h
  obtain ⟨V, h1, rfl⟩ := ha.one
  cases h1
  exact (hc _ hp.1 hp.2.1 w).mono fun e w' ⟨e1, e2⟩ => ⟨_, e1, rfl, by rw [e2]; exact Below.refl _ _⟩
theorem fRaw_ok : PureOK Try.prog 39 fRaw := by
  intro args v ps h hp ρ w vs ha
  unfold fRaw at h
  split at h <;> try (cases h; done)
  simp only [Option.some.injEq, Prod.mk.injEq] at h
  obtain ⟨rfl, rfl⟩ := h
  obtain ⟨V, W, h1, h2, rfl⟩ := ha.two
  rw [agg_vals h1 rfl]
  cases h2
  exact (dataAny _ _ _ _ hp.1 hp.2.1 w).mono fun e w' ⟨e1, e2⟩ => ⟨_, e1, rfl, e2⟩
theorem fRawR_ok : PureOK Try.prog 41 fRawR := by
  intro args v ps h hp ρ w vs ha
  unfold fRawR at h
  split at h <;> try (cases h; done)
  simp only [Option.some.injEq, Prod.mk.injEq] at h
  obtain ⟨rfl, rfl⟩ := h
  obtain ⟨V, W, h1, h2, rfl⟩ := ha.two
  rw [agg_vals h1 rfl]
  cases h2
  exact (refData _ _ _ _ w).mono fun e w' ⟨e1, e2⟩ => ⟨_, e1, rfl, e2⟩

def sgF : FuncId → Option SumA := fun f => match f with
  | 37 => some (pureSum fChk) | 11 => some (pureSum fChk) | 38 => some (pureSum fBks) | 40 => some (pureSum fBks) | 39 => some (pureSum fRaw) | 41 => some (pureSum fRawR) | _ => none
theorem fitF : Fit Try.prog (fun f => (sgF f).map toSum) := ⟨fit_ng, fit_mixed, SumAOK.sum fun f sm h => by
  unfold sgF at h
  split at h
  · cases h; exact (fChk_ok 37 inoCheck).sum ⟨_, Try.func37, rfl⟩
  · cases h; exact (fChk_ok 11 refCheck).sum ⟨_, Try.func11, rfl⟩
  · cases h; exact (fBks_ok 38 blocks_any).sum ⟨_, Try.func38, rfl⟩
  · cases h; exact (fBks_ok 40 refBlocks_any).sum ⟨_, Try.func40, rfl⟩
  · cases h; exact fRaw_ok.sum ⟨_, Try.func39, rfl⟩
  · cases h; exact fRawR_ok.sum ⟨_, Try.func41, rfl⟩
  · cases h⟩
end Fi
end Go.Sx

namespace Go.Sx.Fi
open Go.Proofs Go.RowKit
set_option maxRecDepth 100000
noncomputable def cR : Code → Code | .seq _ b => b | .block _ c => c | .loop c => c | .cond _ _ e => e | c => c
noncomputable def cL : Code → Code | .seq a _ => a | .block _ c => c | .loop c => c | .cond _ t _ => t | c => c
noncomputable def body (f : Nat) : Code := match Try.prog.funcs[f]? with | some fn => (match fn.body with | some c => c | none => .skip) | none => .skip
noncomputable def c9 : Code := body 9
/-- Should, behind the test: heap and slots -/
noncomputable def shp (a b c k l s d0 d1 d2 d3 sg db : Int) (bx : List (Nat × Blk)) : T Blk := ofL ([(0, .row 23 false none (.cells [.int .i64 a, .int .i64 b, .int .i64 c])), (1, .row 28 false none (.cells [.int .u8 k, .int .u8 l, .int .u32 s, .int .u16 d0, .int .u16 d1, .int .u16 d2, .int .u16 d3, .int .u16 sg, .int .u16 db])),
  (2, .row 28 false none (.cells [.int .u8 0, .int .u8 0, .int .u32 0, .int .u16 0, .int .u16 0, .int .u16 0, .int .u16 0, .int .u16 0, .int .u16 0]))] ++ bx)
noncomputable def ssl (n : Int) (r : List (Nat × RV)) : T RV := ofL ([(1, .one (.c (.int .i64 n))), (3, .one (.c (.ptr 0 0))), (5, .one (.c (.ptr 1 0))), (6, .one (.c (.ptr 2 0)))] ++ r)
noncomputable def arr (m : Int) : RV := .one (.agg [.ptr 1 3, .bool (decide (m > 0)), .ptr 1 4, .bool (decide (m > 1)), .ptr 1 5, .bool (decide (m > 2)), .ptr 1 6, .bool (decide (m > 3)), .ptr 1 7, .bool (decide (m > 4)), .ptr 1 8, .bool (decide (m > 31))])
noncomputable def bxs (m : Int) (j : Nat) : List (Nat × Blk) := List.take j [(3, .row 80 false none (.cells [.ptr 1 3, .bool (decide (m > 0))])), (4, .row 80 false none (.cells [.ptr 1 4, .bool (decide (m > 1))])), (5, .row 80 false none (.cells [.ptr 1 5, .bool (decide (m > 2))])),
  (6, .row 80 false none (.cells [.ptr 1 6, .bool (decide (m > 3))])), (7, .row 80 false none (.cells [.ptr 1 7, .bool (decide (m > 4))])), (8, .row 80 false none (.cells [.ptr 1 8, .bool (decide (m > 31))]))]
noncomputable def l9 : Code := cL (cL (cR (cL (cR (cR (cR c9))))))
noncomputable def st1 (a b c n k l s d0 d1 d2 d3 sg db : Int) : S := fgt [1, 3, 5, 6] 75 ⟨ssl n [], shp a b c k l s d0 d1 d2 d3 sg db [], 3, []⟩
noncomputable def st2 (m a b c n k l s d0 d1 d2 d3 sg db : Int) : S := fgt [1, 3, 5, 6, 7] 75 ⟨ssl n [(7, .one (.c (.int .i64 m)))], shp a b c k l s d0 d1 d2 d3 sg db [], 3, []⟩
noncomputable def stL (j : Nat) (m a b c n k l s d0 d1 d2 d3 sg db : Int) : S := fgt [1, 3, 5, 6, 46, 47] 75 ⟨ssl n [(46, arr m), (47, .one (.c (.int .i64 j)))], shp a b c k l s d0 d1 d2 d3 sg db (bxs m j), 3 + j, []⟩
theorem kp_f {a b c d : Int} : kp a b c false d = 0 := rfl
theorem kp_0 {a b c d : Int} (h : rawB a b c d = false) : kp a b c true d = 0 := by unfold kp; rw [h]; rfl
theorem kp_1 {a b c d : Int} (h : rawB a b c d = true) : kp a b c true d = d := by unfold kp; rw [h]; rfl
abbrev KP : List Nat := [1, 3, 5, 6, 46, 47]
theorem it0a (m a b c n k l s d0 d1 d2 d3 sg db : Int) : execA Try.prog sgF 300 75 l9 (stL 0 m a b c n k l s d0 d1 d2 d3 sg db) ⟨0, [(2, false), (3, false), (4, false), (5, false), (6, false), (7, false), (8, false), (9, false), (10, true)], []⟩ (fun x s α => some (x, fgt KP 75 s, α.ob)) = some (.normal, stL 1 m a b c n k l s 0 d1 d2 d3 sg db, [(if false = true then true else !rawB a b c d0) = true, (!decide (m > 0)) = false, (!decide (m > 0)) = false, 0 ≤ d0, d0 < 65536, (!decide (m > 0)) = false, (!decide (m > 0)) = false, (!decide (m > 0)) = false, (!decide (m > 0)) = false, (!decide (m > 0)) = false, (!decide (m > 0)) = false]) := by kernel_rfl
theorem it0b (m a b c n k l s d0 d1 d2 d3 sg db : Int) : execA Try.prog sgF 300 75 l9 (stL 0 m a b c n k l s d0 d1 d2 d3 sg db) ⟨0, [(2, false), (3, false), (4, false), (5, false), (6, false), (7, false), (8, false), (9, false), (10, false)], []⟩ (fun x s α => some (x, fgt KP 75 s, α.ob)) = some (.normal, stL 1 m a b c n k l s d0 d1 d2 d3 sg db, [(if false = true then true else !rawB a b c d0) = false, (!decide (m > 0)) = false, (!decide (m > 0)) = false, 0 ≤ d0, d0 < 65536, (!decide (m > 0)) = false, (!decide (m > 0)) = false, (!decide (m > 0)) = false, (!decide (m > 0)) = false, (!decide (m > 0)) = false, (!decide (m > 0)) = false]) := by kernel_rfl
theorem it0c (m a b c n k l s d0 d1 d2 d3 sg db : Int) : execA Try.prog sgF 300 75 l9 (stL 0 m a b c n k l s d0 d1 d2 d3 sg db) ⟨0, [(2, true), (3, true), (4, true), (5, true), (6, true), (7, true), (8, true), (9, true)], []⟩ (fun x s α => some (x, fgt KP 75 s, α.ob)) = some (.normal, stL 1 m a b c n k l s 0 d1 d2 d3 sg db, [(!decide (m > 0)) = true, (!decide (m > 0)) = true, (!decide (m > 0)) = true, (!decide (m > 0)) = true, (!decide (m > 0)) = true, (!decide (m > 0)) = true, (!decide (m > 0)) = true, (!decide (m > 0)) = true]) := by kernel_rfl
theorem it0 (m a b c n k l s d0 d1 d2 d3 sg db : Int) (h0 : 0 ≤ d0) (h1 : d0 < 65536) {Q : X → S → Prop} (hq : Q .normal (stL 1 m a b c n k l s (kp a b c (decide (m > 0)) d0) d1 d2 d3 sg db)) : Tr Try.prog 75 l9 (stL 0 m a b c n k l s d0 d1 d2 d3 sg db) Q := by
  cases h2 : decide (m > 0) with
  | false => rw [h2, kp_f] at hq; exact Tr.path fitF (it0c m a b c n k l s d0 d1 d2 d3 sg db) (by simp only [All, h2]; simp) hq
  | true =>
    rw [h2] at hq
    cases h3 : rawB a b c d0 with
    | false => rw [kp_0 h3] at hq; exact Tr.path fitF (it0a m a b c n k l s d0 d1 d2 d3 sg db) (by simp only [All, h2, h3]; simp [h0, h1]) hq
    | true => rw [kp_1 h3] at hq; exact Tr.path fitF (it0b m a b c n k l s d0 d1 d2 d3 sg db) (by simp only [All, h2, h3]; simp [h0, h1]) hq
theorem it1a (m a b c n k l s d0 d1 d2 d3 sg db : Int) : execA Try.prog sgF 300 75 l9 (stL 1 m a b c n k l s d0 d1 d2 d3 sg db) ⟨0, [(2, false), (3, false), (4, false), (5, false), (6, false), (7, false), (8, false), (9, false), (10, true)], []⟩ (fun x s α => some (x, fgt KP 75 s, α.ob)) = some (.normal, stL 2 m a b c n k l s d0 0 d2 d3 sg db, [(if false = true then true else !rawB a b c d1) = true, (!decide (m > 1)) = false, (!decide (m > 1)) = false, 0 ≤ d1, d1 < 65536, (!decide (m > 1)) = false, (!decide (m > 1)) = false, (!decide (m > 1)) = false, (!decide (m > 1)) = false, (!decide (m > 1)) = false, (!decide (m > 1)) = false]) := by kernel_rfl
theorem it1b (m a b c n k l s d0 d1 d2 d3 sg db : Int) : execA Try.prog sgF 300 75 l9 (stL 1 m a b c n k l s d0 d1 d2 d3 sg db) ⟨0, [(2, false), (3, false), (4, false), (5, false), (6, false), (7, false), (8, false), (9, false), (10, false)], []⟩ (fun x s α => some (x, fgt KP 75 s, α.ob)) = some (.normal, stL 2 m a b c n k l s d0 d1 d2 d3 sg db, [(if false = true then true else !rawB a b c d1) = false, (!decide (m > 1)) = false, (!decide (m > 1)) = false, 0 ≤ d1, d1 < 65536, (!decide (m > 1)) = false, (!decide (m > 1)) = false, (!decide (m > 1)) = false, (!decide (m > 1)) = false, (!decide (m > 1)) = false, (!decide (m > 1)) = false]) := by kernel_rfl
theorem it1c (m a b c n k l s d0 d1 d2 d3 sg db : Int) : execA Try.prog sgF 300 75 l9 (stL 1 m a b c n k l s d0 d1 d2 d3 sg db) ⟨0, [(2, true), (3, true), (4, true), (5, true), (6, true), (7, true), (8, true), (9, true)], []⟩ (fun x s α => some (x, fgt KP 75 s, α.ob)) = some (.normal, stL 2 m a b c n k l s d0 0 d2 d3 sg db, [(!decide (m > 1)) = true, (!decide (m > 1)) = true, (!decide (m > 1)) = true, (!decide (m > 1)) = true, (!decide (m > 1)) = true, (!decide (m > 1)) = true, (!decide (m > 1)) = true, (!decide (m > 1)) = true]) := by kernel_rfl
theorem it1 (m a b c n k l s d0 d1 d2 d3 sg db : Int) (h0 : 0 ≤ d1) (h1 : d1 < 65536) {Q : X → S → Prop} (hq : Q .normal (stL 2 m a b c n k l s d0 (kp a b c (decide (m > 1)) d1) d2 d3 sg db)) : Tr Try.prog 75 l9 (stL 1 m a b c n k l s d0 d1 d2 d3 sg db) Q := by
  cases h2 : decide (m > 1) with
  | false => rw [h2, kp_f] at hq; exact Tr.path fitF (it1c m a b c n k l s d0 d1 d2 d3 sg db) (by simp only [All, h2]; simp) hq
  | true =>
    rw [h2] at hq
    cases h3 : rawB a b c d1 with
    | false => rw [kp_0 h3] at hq; exact Tr.path fitF (it1a m a b c n k l s d0 d1 d2 d3 sg db) (by simp only [All, h2, h3]; simp [h0, h1]) hq
    | true => rw [kp_1 h3] at hq; exact Tr.path fitF (it1b m a b c n k l s d0 d1 d2 d3 sg db) (by simp only [All, h2, h3]; simp [h0, h1]) hq
theorem it2a (m a b c n k l s d0 d1 d2 d3 sg db : Int) : execA Try.prog sgF 300 75 l9 (stL 2 m a b c n k l s d0 d1 d2 d3 sg db) ⟨0, [(2, false), (3, false), (4, false), (5, false), (6, false), (7, false), (8, false), (9, false), (10, true)], []⟩ (fun x s α => some (x, fgt KP 75 s, α.ob)) = some (.normal, stL 3 m a b c n k l s d0 d1 0 d3 sg db, [(if false = true then true else !rawB a b c d2) = true, (!decide (m > 2)) = false, (!decide (m > 2)) = false, 0 ≤ d2, d2 < 65536, (!decide (m > 2)) = false, (!decide (m > 2)) = false, (!decide (m > 2)) = false, (!decide (m > 2)) = false, (!decide (m > 2)) = false, (!decide (m > 2)) = false]) := by kernel_rfl
theorem it2b (m a b c n k l s d0 d1 d2 d3 sg db : Int) : execA Try.prog sgF 300 75 l9 (stL 2 m a b c n k l s d0 d1 d2 d3 sg db) ⟨0, [(2, false), (3, false), (4, false), (5, false), (6, false), (7, false), (8, false), (9, false), (10, false)], []⟩ (fun x s α => some (x, fgt KP 75 s, α.ob)) = some (.normal, stL 3 m a b c n k l s d0 d1 d2 d3 sg db, [(if false = true then true else !rawB a b c d2) = false, (!decide (m > 2)) = false, (!decide (m > 2)) = false, 0 ≤ d2, d2 < 65536, (!decide (m > 2)) = false, (!decide (m > 2)) = false, (!decide (m > 2)) = false, (!decide (m > 2)) = false, (!decide (m > 2)) = false, (!decide (m > 2)) = false]) := by kernel_rfl
theorem it2c (m a b c n k l s d0 d1 d2 d3 sg db : Int) : execA Try.prog sgF 300 75 l9 (stL 2 m a b c n k l s d0 d1 d2 d3 sg db) ⟨0, [(2, true), (3, true), (4, true), (5, true), (6, true), (7, true), (8, true), (9, true)], []⟩ (fun x s α => some (x, fgt KP 75 s, α.ob)) = some (.normal, stL 3 m a b c n k l s d0 d1 0 d3 sg db, [(!decide (m > 2)) = true, (!decide (m > 2)) = true, (!decide (m > 2)) = true, (!decide (m > 2)) = true, (!decide (m > 2)) = true, (!decide (m > 2)) = true, (!decide (m > 2)) = true, (!decide (m > 2)) = true]) := by kernel_rfl
theorem it2 (m a b c n k l s d0 d1 d2 d3 sg db : Int) (h0 : 0 ≤ d2) (h1 : d2 < 65536) {Q : X → S → Prop} (hq : Q .normal (stL 3 m a b c n k l s d0 d1 (kp a b c (decide (m > 2)) d2) d3 sg db)) : Tr Try.prog 75 l9 (stL 2 m a b c n k l s d0 d1 d2 d3 sg db) Q := by
  cases h2 : decide (m > 2) with
  | false => rw [h2, kp_f] at hq; exact Tr.path fitF (it2c m a b c n k l s d0 d1 d2 d3 sg db) (by simp only [All, h2]; simp) hq
  | true =>
    rw [h2] at hq
    cases h3 : rawB a b c d2 with
    | false => rw [kp_0 h3] at hq; exact Tr.path fitF (it2a m a b c n k l s d0 d1 d2 d3 sg db) (by simp only [All, h2, h3]; simp [h0, h1]) hq
    | true => rw [kp_1 h3] at hq; exact Tr.path fitF (it2b m a b c n k l s d0 d1 d2 d3 sg db) (by simp only [All, h2, h3]; simp [h0, h1]) hq
theorem it3a (m a b c n k l s d0 d1 d2 d3 sg db : Int) : execA Try.prog sgF 300 75 l9 (stL 3 m a b c n k l s d0 d1 d2 d3 sg db) ⟨0, [(2, false), (3, false), (4, false), (5, false), (6, false), (7, false), (8, false), (9, false), (10, true)], []⟩ (fun x s α => some (x, fgt KP 75 s, α.ob)) = some (.normal, stL 4 m a b c n k l s d0 d1 d2 0 sg db, [(if false = true then true else !rawB a b c d3) = true, (!decide (m > 3)) = false, (!decide (m > 3)) = false, 0 ≤ d3, d3 < 65536, (!decide (m > 3)) = false, (!decide (m > 3)) = false, (!decide (m > 3)) = false, (!decide (m > 3)) = false, (!decide (m > 3)) = false, (!decide (m > 3)) = false]) := by kernel_rfl
theorem it3b (m a b c n k l s d0 d1 d2 d3 sg db : Int) : execA Try.prog sgF 300 75 l9 (stL 3 m a b c n k l s d0 d1 d2 d3 sg db) ⟨0, [(2, false), (3, false), (4, false), (5, false), (6, false), (7, false), (8, false), (9, false), (10, false)], []⟩ (fun x s α => some (x, fgt KP 75 s, α.ob)) = some (.normal, stL 4 m a b c n k l s d0 d1 d2 d3 sg db, [(if false = true then true else !rawB a b c d3) = false, (!decide (m > 3)) = false, (!decide (m > 3)) = false, 0 ≤ d3, d3 < 65536, (!decide (m > 3)) = false, (!decide (m > 3)) = false, (!decide (m > 3)) = false, (!decide (m > 3)) = false, (!decide (m > 3)) = false, (!decide (m > 3)) = false]) := by kernel_rfl
theorem it3c (m a b c n k l s d0 d1 d2 d3 sg db : Int) : execA Try.prog sgF 300 75 l9 (stL 3 m a b c n k l s d0 d1 d2 d3 sg db) ⟨0, [(2, true), (3, true), (4, true), (5, true), (6, true), (7, true), (8, true), (9, true)], []⟩ (fun x s α => some (x, fgt KP 75 s, α.ob)) = some (.normal, stL 4 m a b c n k l s d0 d1 d2 0 sg db, [(!decide (m > 3)) = true, (!decide (m > 3)) = true, (!decide (m > 3)) = true, (!decide (m > 3)) = true, (!decide (m > 3)) = true, (!decide (m > 3)) = true, (!decide (m > 3)) = true, (!decide (m > 3)) = true]) := by kernel_rfl
theorem it3 (m a b c n k l s d0 d1 d2 d3 sg db : Int) (h0 : 0 ≤ d3) (h1 : d3 < 65536) {Q : X → S → Prop} (hq : Q .normal (stL 4 m a b c n k l s d0 d1 d2 (kp a b c (decide (m > 3)) d3) sg db)) : Tr Try.prog 75 l9 (stL 3 m a b c n k l s d0 d1 d2 d3 sg db) Q := by
  cases h2 : decide (m > 3) with
  | false => rw [h2, kp_f] at hq; exact Tr.path fitF (it3c m a b c n k l s d0 d1 d2 d3 sg db) (by simp only [All, h2]; simp) hq
  | true =>
    rw [h2] at hq
    cases h3 : rawB a b c d3 with
    | false => rw [kp_0 h3] at hq; exact Tr.path fitF (it3a m a b c n k l s d0 d1 d2 d3 sg db) (by simp only [All, h2, h3]; simp [h0, h1]) hq
    | true => rw [kp_1 h3] at hq; exact Tr.path fitF (it3b m a b c n k l s d0 d1 d2 d3 sg db) (by simp only [All, h2, h3]; simp [h0, h1]) hq
theorem it4a (m a b c n k l s d0 d1 d2 d3 sg db : Int) : execA Try.prog sgF 300 75 l9 (stL 4 m a b c n k l s d0 d1 d2 d3 sg db) ⟨0, [(2, false), (3, false), (4, false), (5, false), (6, false), (7, false), (8, false), (9, false), (10, true)], []⟩ (fun x s α => some (x, fgt KP 75 s, α.ob)) = some (.normal, stL 5 m a b c n k l s d0 d1 d2 d3 0 db, [(if false = true then true else !rawB a b c sg) = true, (!decide (m > 4)) = false, (!decide (m > 4)) = false, 0 ≤ sg, sg < 65536, (!decide (m > 4)) = false, (!decide (m > 4)) = false, (!decide (m > 4)) = false, (!decide (m > 4)) = false, (!decide (m > 4)) = false, (!decide (m > 4)) = false]) := by kernel_rfl
theorem it4b (m a b c n k l s d0 d1 d2 d3 sg db : Int) : execA Try.prog sgF 300 75 l9 (stL 4 m a b c n k l s d0 d1 d2 d3 sg db) ⟨0, [(2, false), (3, false), (4, false), (5, false), (6, false), (7, false), (8, false), (9, false), (10, false)], []⟩ (fun x s α => some (x, fgt KP 75 s, α.ob)) = some (.normal, stL 5 m a b c n k l s d0 d1 d2 d3 sg db, [(if false = true then true else !rawB a b c sg) = false, (!decide (m > 4)) = false, (!decide (m > 4)) = false, 0 ≤ sg, sg < 65536, (!decide (m > 4)) = false, (!decide (m > 4)) = false, (!decide (m > 4)) = false, (!decide (m > 4)) = false, (!decide (m > 4)) = false, (!decide (m > 4)) = false]) := by kernel_rfl
theorem it4c (m a b c n k l s d0 d1 d2 d3 sg db : Int) : execA Try.prog sgF 300 75 l9 (stL 4 m a b c n k l s d0 d1 d2 d3 sg db) ⟨0, [(2, true), (3, true), (4, true), (5, true), (6, true), (7, true), (8, true), (9, true)], []⟩ (fun x s α => some (x, fgt KP 75 s, α.ob)) = some (.normal, stL 5 m a b c n k l s d0 d1 d2 d3 0 db, [(!decide (m > 4)) = true, (!decide (m > 4)) = true, (!decide (m > 4)) = true, (!decide (m > 4)) = true, (!decide (m > 4)) = true, (!decide (m > 4)) = true, (!decide (m > 4)) = true, (!decide (m > 4)) = true]) := by kernel_rfl
theorem it4 (m a b c n k l s d0 d1 d2 d3 sg db : Int) (h0 : 0 ≤ sg) (h1 : sg < 65536) {Q : X → S → Prop} (hq : Q .normal (stL 5 m a b c n k l s d0 d1 d2 d3 (kp a b c (decide (m > 4)) sg) db)) : Tr Try.prog 75 l9 (stL 4 m a b c n k l s d0 d1 d2 d3 sg db) Q := by
  cases h2 : decide (m > 4) with
  | false => rw [h2, kp_f] at hq; exact Tr.path fitF (it4c m a b c n k l s d0 d1 d2 d3 sg db) (by simp only [All, h2]; simp) hq
  | true =>
    rw [h2] at hq
    cases h3 : rawB a b c sg with
    | false => rw [kp_0 h3] at hq; exact Tr.path fitF (it4a m a b c n k l s d0 d1 d2 d3 sg db) (by simp only [All, h2, h3]; simp [h0, h1]) hq
    | true => rw [kp_1 h3] at hq; exact Tr.path fitF (it4b m a b c n k l s d0 d1 d2 d3 sg db) (by simp only [All, h2, h3]; simp [h0, h1]) hq
theorem it5a (m a b c n k l s d0 d1 d2 d3 sg db : Int) : execA Try.prog sgF 300 75 l9 (stL 5 m a b c n k l s d0 d1 d2 d3 sg db) ⟨0, [(2, false), (3, false), (4, false), (5, false), (6, false), (7, false), (8, false), (9, false), (10, true)], []⟩ (fun x s α => some (x, fgt KP 75 s, α.ob)) = some (.normal, stL 6 m a b c n k l s d0 d1 d2 d3 sg 0, [(if false = true then true else !rawB a b c db) = true, (!decide (m > 31)) = false, (!decide (m > 31)) = false, 0 ≤ db, db < 65536, (!decide (m > 31)) = false, (!decide (m > 31)) = false, (!decide (m > 31)) = false, (!decide (m > 31)) = false, (!decide (m > 31)) = false, (!decide (m > 31)) = false]) := by kernel_rfl
theorem it5b (m a b c n k l s d0 d1 d2 d3 sg db : Int) : execA Try.prog sgF 300 75 l9 (stL 5 m a b c n k l s d0 d1 d2 d3 sg db) ⟨0, [(2, false), (3, false), (4, false), (5, false), (6, false), (7, false), (8, false), (9, false), (10, false)], []⟩ (fun x s α => some (x, fgt KP 75 s, α.ob)) = some (.normal, stL 6 m a b c n k l s d0 d1 d2 d3 sg db, [(if false = true then true else !rawB a b c db) = false, (!decide (m > 31)) = false, (!decide (m > 31)) = false, 0 ≤ db, db < 65536, (!decide (m > 31)) = false, (!decide (m > 31)) = false, (!decide (m > 31)) = false, (!decide (m > 31)) = false, (!decide (m > 31)) = false, (!decide (m > 31)) = false]) := by kernel_rfl
theorem it5c (m a b c n k l s d0 d1 d2 d3 sg db : Int) : execA Try.prog sgF 300 75 l9 (stL 5 m a b c n k l s d0 d1 d2 d3 sg db) ⟨0, [(2, true), (3, true), (4, true), (5, true), (6, true), (7, true), (8, true), (9, true)], []⟩ (fun x s α => some (x, fgt KP 75 s, α.ob)) = some (.normal, stL 6 m a b c n k l s d0 d1 d2 d3 sg 0, [(!decide (m > 31)) = true, (!decide (m > 31)) = true, (!decide (m > 31)) = true, (!decide (m > 31)) = true, (!decide (m > 31)) = true, (!decide (m > 31)) = true, (!decide (m > 31)) = true, (!decide (m > 31)) = true]) := by kernel_rfl
theorem it5 (m a b c n k l s d0 d1 d2 d3 sg db : Int) (h0 : 0 ≤ db) (h1 : db < 65536) {Q : X → S → Prop} (hq : Q .normal (stL 6 m a b c n k l s d0 d1 d2 d3 sg (kp a b c (decide (m > 31)) db))) : Tr Try.prog 75 l9 (stL 5 m a b c n k l s d0 d1 d2 d3 sg db) Q := by
  cases h2 : decide (m > 31) with
  | false => rw [h2, kp_f] at hq; exact Tr.path fitF (it5c m a b c n k l s d0 d1 d2 d3 sg db) (by simp only [All, h2]; simp) hq
  | true =>
    rw [h2] at hq
    cases h3 : rawB a b c db with
    | false => rw [kp_0 h3] at hq; exact Tr.path fitF (it5a m a b c n k l s d0 d1 d2 d3 sg db) (by simp only [All, h2, h3]; simp [h0, h1]) hq
    | true => rw [kp_1 h3] at hq; exact Tr.path fitF (it5b m a b c n k l s d0 d1 d2 d3 sg db) (by simp only [All, h2, h3]; simp [h0, h1]) hq
theorem it6 (m a b c n k l s d0 d1 d2 d3 sg db : Int) : execA Try.prog sgF 300 75 l9 (stL 6 m a b c n k l s d0 d1 d2 d3 sg db) ⟨0, [], []⟩ (fun x s α => some (x, fgt KP 75 s, α.ob)) = some (.exit 0, stL 6 m a b c n k l s d0 d1 d2 d3 sg db, []) := by kernel_rfl
theorem lp6 (m a b c n k l s d0 d1 d2 d3 sg db : Int) {Q : X → S → Prop} (hq : Q (.exit 0) (stL 6 m a b c n k l s d0 d1 d2 d3 sg db)) : Tr Try.prog 75 (.loop l9) (stL 6 m a b c n k l s d0 d1 d2 d3 sg db) Q := by
  refine Tr.loop (Tr.path fitF (it6 m a b c n k l s d0 d1 d2 d3 sg db) trivial ?_)
  exact hq
theorem lp5 (m a b c n k l s d0 d1 d2 d3 sg db : Int) (p5 : 0 ≤ db ∧ db < 65536) {Q : X → S → Prop} (hq : Q (.exit 0) (stL 6 m a b c n k l s d0 d1 d2 d3 sg (kp a b c (decide (m > 31)) db))) : Tr Try.prog 75 (.loop l9) (stL 5 m a b c n k l s d0 d1 d2 d3 sg db) Q :=
  Tr.loop (it5 m a b c n k l s d0 d1 d2 d3 sg db p5.1 p5.2 (lp6 m a b c n k l s d0 d1 d2 d3 sg (kp a b c (decide (m > 31)) db)  hq))
theorem lp4 (m a b c n k l s d0 d1 d2 d3 sg db : Int) (p4 : 0 ≤ sg ∧ sg < 65536) (p5 : 0 ≤ db ∧ db < 65536) {Q : X → S → Prop} (hq : Q (.exit 0) (stL 6 m a b c n k l s d0 d1 d2 d3 (kp a b c (decide (m > 4)) sg) (kp a b c (decide (m > 31)) db))) : Tr Try.prog 75 (.loop l9) (stL 4 m a b c n k l s d0 d1 d2 d3 sg db) Q :=
  Tr.loop (it4 m a b c n k l s d0 d1 d2 d3 sg db p4.1 p4.2 (lp5 m a b c n k l s d0 d1 d2 d3 (kp a b c (decide (m > 4)) sg) db p5 hq))
theorem lp3 (m a b c n k l s d0 d1 d2 d3 sg db : Int) (p3 : 0 ≤ d3 ∧ d3 < 65536) (p4 : 0 ≤ sg ∧ sg < 65536) (p5 : 0 ≤ db ∧ db < 65536) {Q : X → S → Prop} (hq : Q (.exit 0) (stL 6 m a b c n k l s d0 d1 d2 (kp a b c (decide (m > 3)) d3) (kp a b c (decide (m > 4)) sg) (kp a b c (decide (m > 31)) db))) : Tr Try.prog 75 (.loop l9) (stL 3 m a b c n k l s d0 d1 d2 d3 sg db) Q :=
  Tr.loop (it3 m a b c n k l s d0 d1 d2 d3 sg db p3.1 p3.2 (lp4 m a b c n k l s d0 d1 d2 (kp a b c (decide (m > 3)) d3) sg db p4 p5 hq))
theorem lp2 (m a b c n k l s d0 d1 d2 d3 sg db : Int) (p2 : 0 ≤ d2 ∧ d2 < 65536) (p3 : 0 ≤ d3 ∧ d3 < 65536) (p4 : 0 ≤ sg ∧ sg < 65536) (p5 : 0 ≤ db ∧ db < 65536) {Q : X → S → Prop} (hq : Q (.exit 0) (stL 6 m a b c n k l s d0 d1 (kp a b c (decide (m > 2)) d2) (kp a b c (decide (m > 3)) d3) (kp a b c (decide (m > 4)) sg) (kp a b c (decide (m > 31)) db))) : Tr Try.prog 75 (.loop l9) (stL 2 m a b c n k l s d0 d1 d2 d3 sg db) Q :=
  Tr.loop (it2 m a b c n k l s d0 d1 d2 d3 sg db p2.1 p2.2 (lp3 m a b c n k l s d0 d1 (kp a b c (decide (m > 2)) d2) d3 sg db p3 p4 p5 hq))
theorem lp1 (m a b c n k l s d0 d1 d2 d3 sg db : Int) (p1 : 0 ≤ d1 ∧ d1 < 65536) (p2 : 0 ≤ d2 ∧ d2 < 65536) (p3 : 0 ≤ d3 ∧ d3 < 65536) (p4 : 0 ≤ sg ∧ sg < 65536) (p5 : 0 ≤ db ∧ db < 65536) {Q : X → S → Prop} (hq : Q (.exit 0) (stL 6 m a b c n k l s d0 (kp a b c (decide (m > 1)) d1) (kp a b c (decide (m > 2)) d2) (kp a b c (decide (m > 3)) d3) (kp a b c (decide (m > 4)) sg) (kp a b c (decide (m > 31)) db))) : Tr Try.prog 75 (.loop l9) (stL 1 m a b c n k l s d0 d1 d2 d3 sg db) Q :=
  Tr.loop (it1 m a b c n k l s d0 d1 d2 d3 sg db p1.1 p1.2 (lp2 m a b c n k l s d0 (kp a b c (decide (m > 1)) d1) d2 d3 sg db p2 p3 p4 p5 hq))
theorem lp0 (m a b c n k l s d0 d1 d2 d3 sg db : Int) (p0 : 0 ≤ d0 ∧ d0 < 65536) (p1 : 0 ≤ d1 ∧ d1 < 65536) (p2 : 0 ≤ d2 ∧ d2 < 65536) (p3 : 0 ≤ d3 ∧ d3 < 65536) (p4 : 0 ≤ sg ∧ sg < 65536) (p5 : 0 ≤ db ∧ db < 65536) {Q : X → S → Prop} (hq : Q (.exit 0) (stL 6 m a b c n k l s (kp a b c (decide (m > 0)) d0) (kp a b c (decide (m > 1)) d1) (kp a b c (decide (m > 2)) d2) (kp a b c (decide (m > 3)) d3) (kp a b c (decide (m > 4)) sg) (kp a b c (decide (m > 31)) db))) : Tr Try.prog 75 (.loop l9) (stL 0 m a b c n k l s d0 d1 d2 d3 sg db) Q :=
  Tr.loop (it0 m a b c n k l s d0 d1 d2 d3 sg db p0.1 p0.2 (lp1 m a b c n k l s (kp a b c (decide (m > 0)) d0) d1 d2 d3 sg db p1 p2 p3 p4 p5 hq))
end Go.Sx.Fi
