/-
  Parts of the executor Sx over the model's code (any program), or of this seat's walks: words and proofs that the row's text uses.
-/
import Derived.Test.YtiloinplnmnamaaGreatSxX
import Derived.Test.YtiloinplnmnamaaGreatBY
namespace Go.Sx
open Go.Proofs
theorem works19_run : runF Tryz.prog sgB true 1000 14 [] s0 (fun v _ => some v) = some (.one (.c (.bool true))) := by kernel_rfl
theorem works19 {s : S} (ht : Top s) : CallInfo Tryz.prog 14 [] s (.one (.c (.bool true))) s [] := runB_quiet fitB (fun _ _ _ h => by exact h) ((runF_eq ..).symm.trans works19_run) ht
#print axioms works19
end Go.Sx
