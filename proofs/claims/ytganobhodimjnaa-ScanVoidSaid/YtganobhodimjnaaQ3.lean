/-
  A part of the executor Sx over the model's code (any program): its words, or its proof; no seat's statement stands here.
-/
import Derived.Test.YtganobhodimjnaaQ2
namespace Go.Sx
open Go.Proofs Go.RowKit
noncomputable def sumTrue : Sum := fun args hp nx =>
  match args with
  | [] => some (.one (.c (.bool true)), hp, nx, [])
  | _ => none
theorem sumTrue_ok {P : Program} {f : FuncId} (hc : ∀ {s : S}, Top s → CallInfo P f [] s (.one (.c (.bool true))) s []) (args : List RV) (s : S) (v : RV) (hp : T Blk) (nx : Nat) (lg : List Nat) (ht : Top s) (h : sumTrue args s.hp s.nx = some (v, hp, nx, lg)) :
    CallInfo P f args s v { s with hp := hp, nx := nx, lg := lg ++ s.lg } lg := by
  unfold sumTrue at h
  split at h <;> try (cases h; done)
  simp only [Option.some.injEq, Prod.mk.injEq] at h
  obtain ⟨rfl, rfl, rfl, rfl⟩ := h
  exact hc ht
noncomputable def sg1 : FuncId → Option Sum := fun f => match f with | 13 => some sumTrue | _ => none
theorem sg1_ok : SumOK Try.prog sg1 := by
  intro g sm h args s v hp nx lg ht hs
  unfold sg1 at h
  split at h
  · cases h; exact sumTrue_ok works27 args s v hp nx lg ht hs
  · cases h
theorem fit1 : Fit Try.prog sg1 := ⟨fit_ng, fit_mixed, sg1_ok⟩
theorem void_run (i : Int) (l : List Int) : runB Try.prog sg1 false 1000 7 [.one (.c (.int .i64 i)), .one (.ints .u8 l 54)] s0 (fun v _ => some v) = some (.one (.c (.bool true))) := by kernel_rfl
theorem void_law (i : Int) (l : List Int) (hl : l.length = 54) (w : World) : Calls Try.prog 7 #[.int .i64 i, .agg (l.map (Value.int .u8)).toArray] w fun e w' => e = .returned (.bool true) ∧ Below w.heap.size w w' :=
  (runB_calls fit1 (void_run i l) (vs := [.int .i64 i, .agg (l.map (Value.int .u8)).toArray]) ⟨_, _, rfl, ⟨_, _, ⟨hl, rfl⟩, rfl, rfl⟩, rfl⟩ w).mono fun e w' ⟨V, ρ, e1, e2, e3⟩ => ⟨by cases e2; exact e1, e3⟩
#print axioms void_law
end Go.Sx
