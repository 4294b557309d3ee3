/-
  A part of the executor Sx over the model's code (any program): its words, or its proof; no seat's statement stands here.
-/
import Derived.Test.YtganobhodimjnaaQ1
namespace Go.Sx
open Go.Proofs
theorem fit_ng : ∀ (g : Nat) (fn : Func), Try.prog.funcs[g]? = some fn → (fn.name == "runtime.NumGoroutine") = false := by
  have h : Try.prog.funcs.toList.all (fun fn => !(fn.name == "runtime.NumGoroutine")) = true := by kernel_rfl
  intro g fn hf
  rw [List.all_eq_true] at h
  have := h fn (by obtain ⟨hg, rfl⟩ := Array.getElem?_eq_some_iff.1 hf; simp)
  simpa using this
theorem fit_mixed : Try.prog.follows .mixedOrders = true := by kernel_rfl
theorem fit0 : Fit Try.prog sg0 := ⟨fit_ng, fit_mixed, sg0_ok⟩
theorem works27_run : runB Try.prog sg0 true 1000 13 [] s0 (fun v _ => some v) = some (.one (.c (.bool true))) := by kernel_rfl
theorem works27 {s : S} (ht : Top s) : CallInfo Try.prog 13 [] s (.one (.c (.bool true))) s [] := runB_quiet fit0 (fun _ _ _ h => by exact h) works27_run ht
#print axioms works27
end Go.Sx
