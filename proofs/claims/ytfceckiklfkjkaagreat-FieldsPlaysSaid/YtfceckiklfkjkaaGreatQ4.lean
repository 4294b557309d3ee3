/-
  Parts of the executor Sx over the model's code (any program), or of this seat's walks: words and proofs that the row's text uses.
-/
import Derived.Test.YtfceckiklfkjkaaGreatQ1
import Derived.KernelRfl
namespace Go.Sx
open Go.Proofs Go.RowKit
theorem works28_run : runB Tryz.prog sg0 true 1000 18 [] s0 (fun v _ => some v) = some (.one (.c (.bool true))) := by kernel_rfl
theorem works28 {s : S} (ht : Top s) : CallInfo Tryz.prog 18 [] s (.one (.c (.bool true))) s [] := runB_quiet fit0 (fun _ _ _ h => by exact h) works28_run ht
end Go.Sx
