/-
  Parts of the executor Sx over the model's code (any program), or of this seat's walks: words and proofs that the row's text uses.
-/
import Derived.Test.YtpenbfjpfmbgaaaGreatBV22
namespace Go.Sx
open Go.Proofs Go.RowKit
noncomputable def sumTrue : Sum := fun args hp nx =>
  match args with
  | [] => some (.one (.c (.bool true)), hp, nx, [])
  | _ => none
theorem sumTrue_ok {P : Program} {f : FuncId} (hc : ∀ {s : S}, Top s → CallInfo P f [] s (.one (.c (.bool true))) s []) (args : List RV) (s : S) (v : RV) (hp : T Blk) (nx : Nat) (lg : List Nat) (ht : Top s) (h : sumTrue args s.hp s.nx = some (v, hp, nx, lg)) :
    CallInfo P f args s v { s with hp := hp, nx := nx, lg := lg ++ s.lg } lg := by
  unfold sumTrue at h
  split at h <;> try (cases h; done)
  simp only [Option.some.injEq, Prod.mk.injEq] at h
  obtain ⟨rfl, rfl, rfl, rfl⟩ := h
  exact hc ht
noncomputable def sgv22 : FuncId → Option Sum := fun f => match f with | 5 => some sumTrue | _ => none
theorem sgv22_ok : SumOK Tryz.prog sgv22 := by
  intro g sm h args s v hp nx lg ht hs
  unfold sgv22 at h
  split at h
  · cases h; exact sumTrue_ok works22 args s v hp nx lg ht hs
  · cases h
theorem fitv22 : Fit Tryz.prog sgv22 := ⟨fit_ng, fit_mixed, sgv22_ok⟩
theorem dirVoid_run (i j : Int) (t : ByteArray) : runB Tryz.prog sgv22 false 1000 3 [.one (.c (.int .i64 i)), .one (.agg [.int .i64 j, .str t])] s0 (fun v _ => some v) = some (.one (.c (.bool true))) := by kernel_rfl
theorem dirVoid_law (i j : Int) (t : ByteArray) (w : World) : Calls Tryz.prog 3 #[.int .i64 i, .agg #[.int .i64 j, .string t]] w fun e w' => e = .returned (.bool true) ∧ Below w.heap.size w w' :=
  (runB_calls fitv22 (dirVoid_run i j t) (vs := [.int .i64 i, .agg #[.int .i64 j, .string t]]) ⟨_, _, rfl, ⟨_, _, ⟨_, ⟨_, _, rfl, ⟨_, _, rfl, rfl, rfl⟩, rfl⟩, rfl⟩, rfl, rfl⟩, rfl⟩ w).mono fun e w' ⟨V, ρ, e1, e2, e3⟩ => ⟨by cases e2; exact e1, e3⟩
#print axioms dirVoid_law
end Go.Sx
