/-
  Parts of the executor Sx over the model's code (any program), or of this seat's walks: words and proofs that the row's text uses.
-/
import Derived.Test.YtpenbfjpfmbgaaaGreatBJ
import Derived.KernelRfl
namespace Go.Proofs.YtpenbfjpfmbgaaaGreat
theorem jd4 : (Rows.dirVoidRow.named == Tryz.pinned.checked.prog.varsNamed 3) = true := by kernel_rfl
end Go.Proofs.YtpenbfjpfmbgaaaGreat
