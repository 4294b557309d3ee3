/-
  Parts of the executor Sx over the model's code (any program), or of this seat's walks: words and proofs that the row's text uses.
-/
import Derived.Test.YtpenbfjpfmbgaaaGreatBJ
import Derived.KernelRfl
namespace Go.Proofs.YtpenbfjpfmbgaaaGreat
theorem jd3 : (Rows.dirVoidRow.recurses == Tryz.pinned.checked.prog.recurses 3) = true := by kernel_rfl
end Go.Proofs.YtpenbfjpfmbgaaaGreat
