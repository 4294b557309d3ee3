/-
  Parts of the executor Sx over the model's code (any program), or of this seat's walks: words and proofs that the row's text uses.
-/
import Derived.Test.YtpenbfjpfmbgaaaGreatBCq
namespace Go.Sx
open Go.Proofs
theorem works22_run : runF Tryz.prog sg22b true 1000 5 [] s0 (fun v _ => some v) = some (.one (.c (.bool true))) := by kernel_rfl
theorem works22 {s : S} (ht : Top s) : CallInfo Tryz.prog 5 [] s (.one (.c (.bool true))) s [] := runB_quiet fit22b (fun _ _ _ h => by exact h) ((runF_eq ..).symm.trans works22_run) ht
#print axioms works22
end Go.Sx
