/-
  Parts of the executor Sx over the model's code (any program), or of this seat's walks: words and proofs that the row's text uses.
-/
import Derived.Test.YtpenbfjpfmbgaaaGreatBJ
import Derived.KernelRfl
namespace Go.Proofs.YtpenbfjpfmbgaaaGreat
theorem jf1 : (Rows.fileVoidRow.inPlace == Tryz.pinned.checked.prog.inPlace 4) = true := by kernel_rfl
theorem jf2 : (Rows.fileVoidRow.unfollowed == Tryz.pinned.checked.prog.unfollowed 4) = true := by kernel_rfl
end Go.Proofs.YtpenbfjpfmbgaaaGreat
