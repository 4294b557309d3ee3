/-
  Parts of the executor Sx over the model's code (any program), or of this seat's walks: words and proofs that the row's text uses.
-/
import Derived.Test.YtiloinplnmnamaaGreatBG
namespace Go.Sx
open Go.Proofs Go.RowKit
noncomputable def sumTrue : Sum := fun args hp nx =>
  match args with
  | [] => some (.one (.c (.bool true)), hp, nx, [])
  | _ => none
theorem sumTrue_ok {P : Program} {f : FuncId} (hc : ∀ {s : S}, Top s → CallInfo P f [] s (.one (.c (.bool true))) s []) (args : List RV) (s : S) (v : RV) (hp : T Blk) (nx : Nat) (lg : List Nat) (ht : Top s) (h : sumTrue args s.hp s.nx = some (v, hp, nx, lg)) :
    CallInfo P f args s v { s with hp := hp, nx := nx, lg := lg ++ s.lg } lg := by
  unfold sumTrue at h
  split at h <;> try (cases h; done)
  simp only [Option.some.injEq, Prod.mk.injEq] at h
  obtain ⟨rfl, rfl, rfl, rfl⟩ := h
  exact hc ht
noncomputable def sg18 : FuncId → Option Sum := fun f => match f with | 18 => some sumTrue | 80 => some sumInode | _ => none
theorem sg18_ok : SumOK Tryz.prog sg18 := by
  intro g sm h args s v hp nx lg ht hs
  unfold sg18 at h
  split at h
  · cases h; exact sumTrue_ok works18 args s v hp nx lg ht hs
  · cases h; exact sumInode_ok args s v hp nx lg ht hs
  · cases h
theorem fit18 : Fit Tryz.prog sg18 := ⟨fit_ng, fit_mixed, sg18_ok⟩
theorem allocVoid_run (i : Int) : runB Tryz.prog sg18 false 1000 4 [.one (.c (.int .i64 i))] s0 (fun v _ => some v) = some (.one (.c (.bool true))) := by kernel_rfl
theorem allocVoid_law (i : Int) (w : World) : Calls Tryz.prog 4 #[.int .i64 i] w fun e w' => e = .returned (.bool true) ∧ Below w.heap.size w w' :=
  (runB_calls fit18 (allocVoid_run i) (vs := [.int .i64 i]) ⟨_, _, rfl, rfl, rfl⟩ w).mono fun e w' ⟨V, ρ, e1, e2, e3⟩ => ⟨by cases e2; exact e1, e3⟩
#print axioms allocVoid_law
end Go.Sx
