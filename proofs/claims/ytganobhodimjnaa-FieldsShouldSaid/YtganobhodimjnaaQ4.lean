/-
  Parts of the executor Sx over the model's code (any program), or of this seat's walks: words and proofs that the row's text uses.
-/
import Derived.Test.YtganobhodimjnaaSxX
import Derived.Test.YtganobhodimjnaaQ1
namespace Go.Sx
open Go.Proofs Go.RowKit
theorem works28_run : runF Try.prog sg0 true 1000 12 [] s0 (fun v _ => some v) = some (.one (.c (.bool true))) := by kernel_rfl
theorem works28 {s : S} (ht : Top s) : CallInfo Try.prog 12 [] s (.one (.c (.bool true))) s [] := runB_quiet fit0 (fun _ _ _ h => by exact h) ((runF_eq ..).symm.trans works28_run) ht
#print axioms works28
end Go.Sx
