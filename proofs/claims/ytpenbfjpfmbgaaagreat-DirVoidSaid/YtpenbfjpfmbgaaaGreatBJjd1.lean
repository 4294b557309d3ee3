/-
  Parts of the executor Sx over the model's code (any program), or of this seat's walks: words and proofs that the row's text uses.
-/
import Derived.Test.YtpenbfjpfmbgaaaGreatBJ
import Derived.KernelRfl
namespace Go.Proofs.YtpenbfjpfmbgaaaGreat
theorem jd1 : (Rows.dirVoidRow.inPlace == Tryz.pinned.checked.prog.inPlace 3) = true := by kernel_rfl
theorem jd2 : (Rows.dirVoidRow.unfollowed == Tryz.pinned.checked.prog.unfollowed 3) = true := by kernel_rfl
end Go.Proofs.YtpenbfjpfmbgaaaGreat
