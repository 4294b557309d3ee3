/-
  Parts of the executor Sx over the model's code (any program), or of this seat's walks: words and proofs that the row's text uses.
-/
import Derived.Test.YtpenbfjpfmbgaaaGreatBJ
import Derived.KernelRfl
namespace Go.Proofs.YtpenbfjpfmbgaaaGreat
theorem jdB : factsB Tryz.pinned.checked.prog Tryz.f3 Rows.dirVoidSpec Rows.dirVoidRow = true := by kernel_rfl
end Go.Proofs.YtpenbfjpfmbgaaaGreat
