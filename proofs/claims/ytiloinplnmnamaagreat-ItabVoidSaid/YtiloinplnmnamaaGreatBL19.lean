/-
  Parts of the executor Sx over the model's code (any program), or of this seat's walks: words and proofs that the row's text uses.
-/
import Derived.Test.YtiloinplnmnamaaGreatBV19
namespace Go.Sx
open Go.Proofs Go.RowKit
noncomputable def sumTrue : Sum := fun args hp nx =>
  match args with
  | [] => some (.one (.c (.bool true)), hp, nx, [])
  | _ => none
theorem sumTrue_ok {P : Program} {f : FuncId} (hc : ∀ {s : S}, Top s → CallInfo P f [] s (.one (.c (.bool true))) s []) (args : List RV) (s : S) (v : RV) (hp : T Blk) (nx : Nat) (lg : List Nat) (ht : Top s) (h : sumTrue args s.hp s.nx = some (v, hp, nx, lg)) :
    CallInfo P f args s v { s with hp := hp, nx := nx, lg := lg ++ s.lg } lg := by
  unfold sumTrue at h
  split at h <;> try (cases h; done)
  simp only [Option.some.injEq, Prod.mk.injEq] at h
  obtain ⟨rfl, rfl, rfl, rfl⟩ := h
  exact hc ht
noncomputable def sg19 : FuncId → Option Sum := fun f => match f with | 14 => some sumTrue | _ => none
theorem sg19_ok : SumOK Tryz.prog sg19 := by
  intro g sm h args s v hp nx lg ht hs
  unfold sg19 at h
  split at h
  · cases h; exact sumTrue_ok works19 args s v hp nx lg ht hs
  · cases h
theorem fit19 : Fit Tryz.prog sg19 := ⟨fit_ng, fit_mixed, sg19_ok⟩
theorem itabVoid_run (i a b c d e f g h j : Int) : runB Tryz.prog sg19 false 1000 3 [.one (.c (.int .i64 i)), .one (.agg [.int .u8 a, .int .u8 b, .int .u32 c, .int .u16 d, .int .u16 e, .int .u16 f, .int .u16 g, .int .u16 h, .int .u16 j])] s0 (fun v _ => some v) = some (.one (.c (.bool true))) := by kernel_rfl
theorem itabVoid_law (i a b c d e f g h j : Int) (w : World) : Calls Tryz.prog 3 #[.int .i64 i, .agg #[.int .u8 a, .int .u8 b, .int .u32 c, .int .u16 d, .int .u16 e, .int .u16 f, .int .u16 g, .int .u16 h, .int .u16 j]] w fun e w' => e = .returned (.bool true) ∧ Below w.heap.size w w' :=
  (runB_calls fit19 (itabVoid_run i a b c d e f g h j) (vs := [.int .i64 i, .agg #[.int .u8 a, .int .u8 b, .int .u32 c, .int .u16 d, .int .u16 e, .int .u16 f, .int .u16 g, .int .u16 h, .int .u16 j]]) ⟨_, _, rfl, ⟨_, _, ⟨_, ⟨_, _, rfl, ⟨_, _, rfl, ⟨_, _, rfl, ⟨_, _, rfl, ⟨_, _, rfl, ⟨_, _, rfl, ⟨_, _, rfl, ⟨_, _, rfl, ⟨_, _, rfl, rfl, rfl⟩, rfl⟩, rfl⟩, rfl⟩, rfl⟩, rfl⟩, rfl⟩, rfl⟩, rfl⟩, rfl⟩, rfl, rfl⟩, rfl⟩ w).mono fun e w' ⟨V, ρ, e1, e2, e3⟩ => ⟨by cases e2; exact e1, e3⟩
#print axioms itabVoid_law
end Go.Sx
